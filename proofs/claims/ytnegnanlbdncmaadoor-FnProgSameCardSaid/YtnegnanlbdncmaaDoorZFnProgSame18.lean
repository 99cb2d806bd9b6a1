/- Parts of the proof of FnProgSame: plain Lean functions of Go functions, and that the calls come to what they say; no condition beyond those that each theorem names. -/
import Derived.Test.YtnegnanlbdncmaaDoorZFnProgSame14
import Derived.Deep.RegionWith
import Derived.Test.YtnegnanlbdncmaaDoorZFnProgSame4
import Derived.Test.YtnegnanlbdncmaaDoorZFnProgSame6
import Derived.Test.YtnegnanlbdncmaaDoorZFnProgSame11
import Derived.Test.YtnegnanlbdncmaaDoorZFnProgSame10
import Derived.Test.YtnegnanlbdncmaaDoorZFnProgSame17
namespace Go.Proofs.YtnegnanlbdncmaaDoor.P
open Go.RowKit Go.Maps Go.Proofs.YtnegnanlbdncmaaDoorW.PrintWords Go.Proofs.YtnegnanlbdncmaaDoorW.PrintLast Go.Proofs.YtnegnanlbdncmaaDoorW.PrintMore
attribute [local go_sem] max2_int min2_int max_two min_two max_three min_three max_four min_four
attribute [local go_sem ↓] Go.wp_at_zero Go.wp_at_succ
set_option linter.unusedVariables false
set_option linter.unusedSimpArgs false
set_option maxHeartbeats 2000000 in
set_option maxRecDepth 100000 in
theorem str_of (F : List S49 → Option (List UInt8)) (hF : TSays F) (a0 a1 a2 a3 : Int) (A4 : Option Addr) (c4 : Nat) (l4 : List S49) (A5 : Option Addr) (c5 : Nat) (l5 : List S49) (r : List UInt8) (w : World) (hT : Tab w)
    (hr4 : Kd.C k49 w A4 l4.length l4) (hc4 : l4.length ≤ c4) (hr5 : Kd.C k49 w A5 l5.length l5) (hc5 : l5.length ≤ c5) (h : stB F a0 a1 a2 a3 l4 l5 = some r) :
    Calls Tryd.prog 46 #[.agg #[.int .i64 a0, .int .i64 a1, .int .i64 a2, .int .i64 a3, .slice A4 l4.length c4, .slice A5 l5.length c5]] w fun e w' => e = .returned (sV r) ∧ Below w.heap.size w w' := by
  have HR4 := Aside0.mk hr4
  have HR5 := Aside0.mk hr5
  have HF := Aside0.mk hF
  have HT := Aside0.mk hT
  clear hr4 hr5 hF hT
  unfold stB at h
  split at h
  case isFalse => cases h
  rename_i hok
  obtain ⟨x, hx, h1⟩ := Option.bind_eq_some_iff.1 h
  obtain ⟨y, hy, h2⟩ := Option.bind_eq_some_iff.1 h1
  have HX := Aside0.mk hx
  have HY := Aside0.mk hy
  have HJ := Aside0.mk h2
  have HN := Aside0.mk hok
  clear hx hy h h1 h2 hok
  have hl1 := look1' w
  have hl2 := look2' w
  have hl3 := look3' w
  go_enter Tryd.func46, Tryd.ntmps46
  go_upto_region 1 with fail
  go_cut [3] (fun s3 wx => ∃ g : Nat, s3 = .pointer (some ⟨g, 0, none⟩) ∧ Aside0 (OkAt wx w.heap.size g a0 a1 a2 a3 (.slice A4 l4.length c4) (.slice A5 l5.length c5)) ∧ Aside0 (Below w.heap.size w wx))
  case first =>
    go_region_held3 (fun w' => w'.cell? ⟨w.heap.size, 0, none⟩ = some (.int .i64 a0)) (go_keep)
      (first | (go_at_call 58; refine (forms_calls _).mono ?_; rintro e w' ⟨rfl, rfl⟩))
    all_goals (go_wp2_with fail; go_meet; first | exact ⟨_, rfl, ⟨okAt1 w _ _ _ _ _ _⟩, ⟨below_drew1 (below_alloc (below_alloc (below_alloc (Below.refl _ w) _) _) _)⟩⟩ | exact ⟨_, rfl, ⟨okAt3 w _ _ _ _ _ _⟩, ⟨below_drew1 (below_alloc (below_alloc (below_alloc (Below.refl _ w) _) _) _)⟩⟩)
  case rest =>
  obtain ⟨g, rfl, HOk, HB⟩ := hcut
  clear hl1 hl2 hl3
  obtain ⟨e0, e1, e2, e3, e4, e5, f1, f2, f3, f4⟩ := HOk.out.cells
  have f0 := cell_of HOk.out.f 0 rfl
  have HW : WdAt w (wc.alloc (.cells #[.string (fmS a0)] 9)) g a0 a1 a2 a3 (.slice A4 l4.length c4) (.slice A5 l5.length c5) (.slice (some ⟨wc.heap.size, 0, none⟩) 1 1) [(fmS a0).data.toList] 8 := by
    refine ⟨HOk.out.below ((Below.refl _ _).alloc (Nat.le_refl _) _), ?_, HB.out.alloc HB.out.size _, Nat.le_of_ble_eq_true rfl⟩
    have := World.ownsRow_lit (base := w.heap.size) (e := 9) (size := 1) wc #[.string (fmS a0)] 1 HB.out.size (by decide) rfl
    simpa [encs, sV] using this
  have HW := Aside0.mk HW
  go_upto_region 3 with fail
  obtain ⟨b, hb⟩ : ∃ b, b = wc.heap.size := ⟨_, rfl⟩
  rw [← hb] at HW ⊢
  generalize wc.alloc (.cells #[.string (fmS a0)] 9) = w1 at *
  clear hb HOk HB e0 e1 e2 e3 e4 e5 f0 f1 f2 f3 f4
  obtain ⟨e0, e1, e2, e3, e4, e5, f1, f2, f3, f4⟩ := HW.out.k.cells
  go_upto_if 16 with fail
  go_cut [4] (fun s4 wx => ∃ v : Value, s4 = v ∧ Aside0 (WdAt w wx g a0 a1 a2 a3 (.slice A4 l4.length c4) (.slice A5 l5.length c5) v [head0 a0 a3] 8))
  case first =>
    by_cases k0 : a0 = 2
    · have k0a : (a0 == 2) = true := by simpa using k0
      clear f1 f2 f3 f4 e1 e2 e4 e5
      have ha3 := HN.out.2.2.2 k0
      obtain ⟨x0, y0, y1⟩ := own_blk HW.out.o (Nat.zero_lt_one) rfl
      have x1 := fun o => (y1 o).1
      replace y1 := fun o => (y1 o).2
      have z1 : ∀ o : Obj, (w1.alloc o).cell? ⟨w.heap.size, 3, none⟩ = some (.int .i64 a3) := fun o => (blk_cell (blk_alloc HW.out.k.s o) 3).trans rfl
      have K0 := Aside0.mk k0
      clear k0
      rcases (by omega : a3 = 0 ∨ a3 = 1 ∨ a3 = 2 ∨ a3 = 3 ∨ a3 = 4 ∨ a3 = 5) with rfl | rfl | rfl | rfl | rfl | rfl
      · clear ha3
        go_upto_region 4 with fail
        go_region_with (first | (go_at_call 61; refine (opWords_calls _).mono ?_; rintro e w' ⟨rfl, rfl⟩; unfold opsC sV))
        all_goals (go_wp2_with fail; go_meet; exact ⟨_, rfl, ⟨by rw [show head0 a0 0 = opW 0 from if_pos K0.out]; exact HW.out.put _ (opW 0)⟩⟩)
      · clear ha3
        go_upto_region 4 with fail
        go_region_with (first | (go_at_call 61; refine (opWords_calls _).mono ?_; rintro e w' ⟨rfl, rfl⟩; unfold opsC sV))
        all_goals (go_wp2_with fail; go_meet; exact ⟨_, rfl, ⟨by rw [show head0 a0 1 = opW 1 from if_pos K0.out]; exact HW.out.put _ (opW 1)⟩⟩)
      · clear ha3
        go_upto_region 4 with fail
        go_region_with (first | (go_at_call 61; refine (opWords_calls _).mono ?_; rintro e w' ⟨rfl, rfl⟩; unfold opsC sV))
        all_goals (go_wp2_with fail; go_meet; exact ⟨_, rfl, ⟨by rw [show head0 a0 2 = opW 2 from if_pos K0.out]; exact HW.out.put _ (opW 2)⟩⟩)
      · clear ha3
        go_upto_region 4 with fail
        go_region_with (first | (go_at_call 61; refine (opWords_calls _).mono ?_; rintro e w' ⟨rfl, rfl⟩; unfold opsC sV))
        all_goals (go_wp2_with fail; go_meet; exact ⟨_, rfl, ⟨by rw [show head0 a0 3 = opW 3 from if_pos K0.out]; exact HW.out.put _ (opW 3)⟩⟩)
      · clear ha3
        go_upto_region 4 with fail
        go_region_with (first | (go_at_call 61; refine (opWords_calls _).mono ?_; rintro e w' ⟨rfl, rfl⟩; unfold opsC sV))
        all_goals (go_wp2_with fail; go_meet; exact ⟨_, rfl, ⟨by rw [show head0 a0 4 = opW 4 from if_pos K0.out]; exact HW.out.put _ (opW 4)⟩⟩)
      · clear ha3
        go_upto_region 4 with fail
        go_region_with (first | (go_at_call 61; refine (opWords_calls _).mono ?_; rintro e w' ⟨rfl, rfl⟩; unfold opsC sV))
        all_goals (go_wp2_with fail; go_meet; exact ⟨_, rfl, ⟨by rw [show head0 a0 5 = opW 5 from if_pos K0.out]; exact HW.out.put _ (opW 5)⟩⟩)
    · have k0a : (a0 == 2) = false := by simpa using k0
      go_wp2
      go_meet
      have e : head0 a0 a3 = (fmS a0).data.toList := if_neg k0
      exact ⟨_, rfl, by rw [e]; exact HW⟩
  case rest =>
  obtain ⟨v, rfl, HV⟩ := hcut
  clear HW e0 e1 e2 e3 e4 e5 f1 f2 f3 f4
  have HW := HV
  clear HV
  obtain ⟨e0, e1, e2, e3, e4, e5, f1, f2, f3, f4⟩ := HW.out.k.cells
  go_wp2
  have HL := Aside0.mk (blk_new wc (.cells #[.int .i64 (fmA a0), .int .i64 (fmB a0)] 3))
  have HV := Aside0.mk (HW.out.below ((Below.refl _ wc).alloc (Nat.le_refl _) (.cells #[.int .i64 (fmA a0), .int .i64 (fmB a0)] 3)))
  clear HW e0 e1 e2 e3 e4 e5 f1 f2 f3 f4
  have HW := HV
  clear HV
  generalize wc.heap.size = q at *
  generalize wc.alloc (.cells #[.int .i64 (fmA a0), .int .i64 (fmB a0)] 3) = w2 at *
  go_loopg [4, 30] 3 (fun gg p4 p30 wr => ∃ (kk : Nat) (v : Value), kk ≤ 2 ∧ 2 - kk < gg ∧ p4 = v ∧ p30 = .int .i64 kk ∧ Aside0 (WdAt w wr g a0 a1 a2 a3 (.slice A4 l4.length c4) (.slice A5 l5.length c5) v (wsAt a0 a1 a2 a3 kk) (8 - kk)) ∧ Aside0 (wr.heap[q]? = some (.cells #[.int .i64 (fmA a0), .int .i64 (fmB a0)] 3 (0, 0))))
  case atStart => exact ⟨0, _, by omega, by omega, rfl, rfl, HW, HL⟩
  case round =>
    obtain ⟨kk, vv, hkk, hgk, rfl, rfl, HV, HL⟩ := hrel
    obtain ⟨e0, e1, e2, e3, e4, e5, f1, f2, f3, f4⟩ := HV.out.k.cells
    obtain ⟨ws, hws⟩ : ∃ l, l = wsAt a0 a1 a2 a3 kk := ⟨_, rfl⟩
    rw [← hws] at HV
    obtain ⟨Av, cv, rfl⟩ := own_slice HV.out.o
    rcases (by omega : kk = 0 ∨ kk = 1 ∨ kk = 2) with rfl | rfl | rfl
    · clear HW
      by_cases kA : 0 < fmA a0
      · have kA1 : decide (0 < fmA a0) = true := decide_eq_true kA
        have hit := fun o : Obj => itoa_calls a1 HN.out.1.1 HN.out.1.2 (wr.alloc o) ((HT.out.below HV.out.b).below ((Below.refl _ _).alloc (Nat.le_refl _) o))
        have HIT := Aside0.mk hit
        have KA := Aside0.mk (hws.trans rfl ▸ wsA_pos (a1 := a1) (a2 := a2) (a3 := a3) kA : wsAt a0 a1 a2 a3 1 = ws ++ [Lib.itoa a1])
        clear hit kA hws e4 e5 f1 f2 f3 f4
        have l0 := (blk_cell HL.out 0).trans (rfl : _ = some (Value.int .i64 (fmA a0)))
        go_wp2_with (first
          | (go_at_call 62; refine (HIT.out _).mono ?_; rintro e w3 ⟨rfl, hb⟩; have hb1 := below_step ((Below.refl _ wr).alloc (Nat.le_refl _) _) hb; have n1 := Aside0.mk (HV.out.below hb1); have n2 := Aside0.mk (blk_below HL.out hb1); clear hb hb1 HV HL e0 e1 e2 e3 l0 HIT; have HV := n1; have HL := n2; clear n1 n2)
          | ((with_reducible refine gate_builtin (b := .append) (xs := #[.tmp 37, .tmp 47]) rfl ?_); at_builtin; refine print_append_of sV w.heap.size rfl (.tmp 37) (.tmp 47) 66 9 (.string ⟨#[]⟩) 16 rfl Tryd.underlying66 info9 rfl (by decide) (.slice Av _ cv) ws (Lib.itoa a1) rfl rfl rfl HV.out.o HV.out.b HV.out.b.size HV.out.room ?_; intro v1 w4 ho hb hg hat; have n1 := Aside0.mk (HV.out.app (m := 7) hg ho hb); have n2 := Aside0.mk (blk_app HV.out hg HL.out (by decide)); clear ho hb hg hat HV HL; have HV := n1; have HL := n2; clear n1 n2; obtain ⟨A1, c1, rfl⟩ := own_slice HV.out.o))
        go_roundg 2
        case measure => omega
        case rel => exact ⟨1, _, by omega, by omega, rfl, rfl, ⟨by rw [KA.out]; have z := HV.out; rw [show (ws ++ [Lib.itoa a1]).length = ws.length + 1 from by simp] at z; exact z⟩, HL⟩
      · have kA1 : decide (0 < fmA a0) = false := decide_eq_false kA
        have KA := Aside0.mk (hws.trans rfl ▸ wsA_neg (a1 := a1) (a2 := a2) (a3 := a3) kA : wsAt a0 a1 a2 a3 1 = ws)
        clear kA hws e4 e5 f1 f2 f3 f4
        have l0 := (blk_cell HL.out 0).trans (rfl : _ = some (Value.int .i64 (fmA a0)))
        go_wp2
        go_roundg 2
        case measure => omega
        case rel => exact ⟨1, _, by omega, by omega, rfl, rfl, ⟨by rw [KA.out]; exact HV.out.weak (m' := 7) (by omega)⟩, HL⟩
    · clear HW
      by_cases kA : 0 < fmB a0
      · have kA1 : decide (0 < fmB a0) = true := decide_eq_true kA
        have hit := fun o : Obj => itoa_calls a2 HN.out.2.1.1 HN.out.2.1.2 (wr.alloc o) ((HT.out.below HV.out.b).below ((Below.refl _ _).alloc (Nat.le_refl _) o))
        have HIT := Aside0.mk hit
        have KA := Aside0.mk (hws.trans rfl ▸ wsB_pos (a1 := a1) (a2 := a2) (a3 := a3) kA : wsAt a0 a1 a2 a3 2 = ws ++ [Lib.itoa a2])
        clear hit kA hws e4 e5 f1 f2 f3 f4
        have l0 := (blk_cell HL.out 1).trans (rfl : _ = some (Value.int .i64 (fmB a0)))
        go_wp2_with (first
          | (go_at_call 62; refine (HIT.out _).mono ?_; rintro e w3 ⟨rfl, hb⟩; have hb1 := below_step ((Below.refl _ wr).alloc (Nat.le_refl _) _) hb; have n1 := Aside0.mk (HV.out.below hb1); have n2 := Aside0.mk (blk_below HL.out hb1); clear hb hb1 HV HL e0 e1 e2 e3 l0 HIT; have HV := n1; have HL := n2; clear n1 n2)
          | ((with_reducible refine gate_builtin (b := .append) (xs := #[.tmp 37, .tmp 47]) rfl ?_); at_builtin; refine print_append_of sV w.heap.size rfl (.tmp 37) (.tmp 47) 66 9 (.string ⟨#[]⟩) 16 rfl Tryd.underlying66 info9 rfl (by decide) (.slice Av _ cv) ws (Lib.itoa a2) rfl rfl rfl HV.out.o HV.out.b HV.out.b.size HV.out.room ?_; intro v1 w4 ho hb hg hat; have n1 := Aside0.mk (HV.out.app (m := 6) hg ho hb); have n2 := Aside0.mk (blk_app HV.out hg HL.out (by decide)); clear ho hb hg hat HV HL; have HV := n1; have HL := n2; clear n1 n2; obtain ⟨A1, c1, rfl⟩ := own_slice HV.out.o))
        go_roundg 1
        case measure => omega
        case rel => exact ⟨2, _, by omega, by omega, rfl, rfl, ⟨by rw [KA.out]; have z := HV.out; rw [show (ws ++ [Lib.itoa a2]).length = ws.length + 1 from by simp] at z; exact z⟩, HL⟩
      · have kA1 : decide (0 < fmB a0) = false := decide_eq_false kA
        have KA := Aside0.mk (hws.trans rfl ▸ wsB_neg (a1 := a1) (a2 := a2) (a3 := a3) kA : wsAt a0 a1 a2 a3 2 = ws)
        clear kA hws e4 e5 f1 f2 f3 f4
        have l0 := (blk_cell HL.out 1).trans (rfl : _ = some (Value.int .i64 (fmB a0)))
        go_wp2
        go_roundg 1
        case measure => omega
        case rel => exact ⟨2, _, by omega, by omega, rfl, rfl, ⟨by rw [KA.out]; exact HV.out.weak (m' := 6) (by omega)⟩, HL⟩
    · clear HW HL
      have KW := Aside0.mk hws
      have HW := Aside0.mk (show WdAt w wr g a0 a1 a2 a3 (.slice A4 l4.length c4) (.slice A5 l5.length c5) (.slice Av ws.length cv) ws (5 + 1) from HV.out)
      clear hws hgk hkk HV
      go_upto_if 52 with fail
      go_cut [4] (fun s4 wx => ∃ v ws1, s4 = v ∧ Aside0 (ws1 = wHeads a0 a1 a2 a3) ∧ Aside0 (WdAt w wx g a0 a1 a2 a3 (.slice A4 l4.length c4) (.slice A5 l5.length c5) v ws1 5))
      case first =>
        by_cases k1 : a0 = 1
        · have k1a : (a0 == 1) = true := by simpa using k1
          have hit := fun W (hb : Below wr.heap.size wr W) => itoa_calls a3 HN.out.2.2.1.1 HN.out.2.2.1.2 W ((HT.out.below HW.out.b).below hb)
          have HIT := Aside0.mk (hit wr (Below.refl _ _))
          have KA := Aside0.mk (show ws ++ [Lib.itoa a3] = wHeads a0 a1 a2 a3 by rw [KW.out]; unfold wHeads wsAt; rw [if_pos k1])
          clear hit k1 e4 e5 f1 f2 f3 f4 KW
          go_wp2_with (first
            | (go_at_call 62; refine HIT.out.mono ?_; rintro e w3 ⟨rfl, hb⟩; have n1 := Aside0.mk (HW.out.below hb); clear hb HW e0 e1 e2 e3 HIT; have HW := n1; clear n1)
            | ((with_reducible refine gate_builtin (b := .append) (xs := #[.tmp 53, .tmp 57]) rfl ?_); at_builtin; refine print_append_of sV w.heap.size rfl (.tmp 53) (.tmp 57) 66 9 (.string ⟨#[]⟩) 16 rfl Tryd.underlying66 info9 rfl (by decide) (.slice Av _ cv) ws (Lib.itoa a3) rfl rfl rfl HW.out.o HW.out.b HW.out.b.size HW.out.room ?_; intro v1 w4 ho hb hg hat; have n1 := Aside0.mk (HW.out.app (m := 5) hg ho hb); clear ho hb hg hat HW; have HW := n1; clear n1))
          go_meet
          exact ⟨_, _, rfl, KA, HW⟩
        · have k1a : (a0 == 1) = false := by simpa using k1
          have KA := Aside0.mk (show ws = wHeads a0 a1 a2 a3 by rw [KW.out]; unfold wHeads wsAt; rw [if_neg k1, List.append_nil])
          clear k1 KW
          go_wp2
          go_meet
          exact ⟨_, _, rfl, KA, ⟨HW.out.weak (by omega)⟩⟩
      case rest =>
      obtain ⟨v1, ws1, rfl, KW1, HV⟩ := hcut
      clear HW e0 e1 e2 e3 e4 e5 f1 f2 f3 f4 KW
      have HW := HV
      clear HV
      obtain ⟨e0, e1, e2, e3, e4, e5, f1, f2, f3, f4⟩ := HW.out.k.cells
      obtain ⟨Av1, cv1, rfl⟩ := own_slice HW.out.o
      go_upto_if 60 with fail
      go_cut [4] (fun s4 wx => ∃ v ws2, s4 = v ∧ Aside0 (ws2 = wHeads a0 a1 a2 a3 ++ x) ∧ Aside0 (WdAt w wx g a0 a1 a2 a3 (.slice A4 l4.length c4) (.slice A5 l5.length c5) v ws2 4))
      case first =>
        cases hfm : fmX a0 with
        | true =>
          obtain ⟨t, hx, ht⟩ : ∃ t, x = [t] ∧ brF F l4 = some t := by
            have z := HX.out
            rw [hfm] at z
            obtain ⟨t, h1, h2⟩ := Option.bind_eq_some_iff.1 (show (brF F l4).bind (fun t => some [t]) = some x from z)
            exact ⟨t, (Option.some.inj h2).symm, h1⟩
          have HIT := Aside0.mk (brk_of F HF.out A4 c4 l4 t wc (HT.out.below HW.out.b) (Kd.C_below HR4.out HW.out.b) hc4 ht)
          have KA := Aside0.mk (show ws1 ++ [t] = wHeads a0 a1 a2 a3 ++ x by rw [KW1.out, hx])
          clear ht hx
          go_wp2_with (first
            | (go_at_call 63; refine HIT.out.mono ?_; rintro e w3 ⟨rfl, hb⟩; unfold sV; have n1 := Aside0.mk (HW.out.below hb); clear hb HW e0 e1 e2 e3 e4 e5 f1 f2 f3 f4 HIT; have HW := n1; clear n1)
            | ((with_reducible refine gate_builtin (b := .append) (xs := #[.tmp 61, .tmp 65]) rfl ?_); at_builtin; refine print_append_of sV w.heap.size rfl (.tmp 61) (.tmp 65) 66 9 (.string ⟨#[]⟩) 16 rfl Tryd.underlying66 info9 rfl (by decide) (.slice Av1 _ cv1) ws1 t rfl rfl rfl HW.out.o HW.out.b HW.out.b.size HW.out.room ?_; intro v1 w4 ho hb hg hat; have n1 := Aside0.mk (HW.out.app (m := 4) hg ho hb); clear ho hb hg hat HW; have HW := n1; clear n1))
          go_meet
          exact ⟨_, _, rfl, KA, HW⟩
        | false =>
          have KA := Aside0.mk (show ws1 = wHeads a0 a1 a2 a3 ++ x by
            have z := HX.out
            rw [hfm] at z
            rw [KW1.out, ← Option.some.inj (show some [] = some x from z), List.append_nil])
          go_wp2
          go_meet
          exact ⟨_, _, rfl, KA, ⟨HW.out.weak (by omega)⟩⟩
      case rest =>
      obtain ⟨v2, ws2, rfl, KW2, HV⟩ := hcut
      clear HW e0 e1 e2 e3 e4 e5 f1 f2 f3 f4
      have HW := HV
      clear HV
      obtain ⟨e0, e1, e2, e3, e4, e5, f1, f2, f3, f4⟩ := HW.out.k.cells
      obtain ⟨Av2, cv2, rfl⟩ := own_slice HW.out.o
      go_upto_if 68 with fail
      go_cut [4] (fun s4 wx => ∃ v ws2, s4 = v ∧ Aside0 (ws2 = wHeads a0 a1 a2 a3 ++ x ++ y) ∧ Aside0 (WdAt w wx g a0 a1 a2 a3 (.slice A4 l4.length c4) (.slice A5 l5.length c5) v ws2 3))
      case first =>
        cases hfm : fmY a0 with
        | true =>
          obtain ⟨t, hx, ht⟩ : ∃ t, y = [t] ∧ brF F l5 = some t := by
            have z := HY.out
            rw [hfm] at z
            obtain ⟨t, h1, h2⟩ := Option.bind_eq_some_iff.1 (show (brF F l5).bind (fun t => some [t]) = some y from z)
            exact ⟨t, (Option.some.inj h2).symm, h1⟩
          have HIT := Aside0.mk (brk_of F HF.out A5 c5 l5 t wc (HT.out.below HW.out.b) (Kd.C_below HR5.out HW.out.b) hc5 ht)
          have KA := Aside0.mk (show ws2 ++ [t] = wHeads a0 a1 a2 a3 ++ x ++ y by rw [KW2.out, hx])
          clear ht hx
          go_wp2_with (first
            | (go_at_call 63; refine HIT.out.mono ?_; rintro e w3 ⟨rfl, hb⟩; unfold sV; have n1 := Aside0.mk (HW.out.below hb); clear hb HW e0 e1 e2 e3 e4 e5 f1 f2 f3 f4 HIT; have HW := n1; clear n1)
            | ((with_reducible refine gate_builtin (b := .append) (xs := #[.tmp 69, .tmp 73]) rfl ?_); at_builtin; refine print_append_of sV w.heap.size rfl (.tmp 69) (.tmp 73) 66 9 (.string ⟨#[]⟩) 16 rfl Tryd.underlying66 info9 rfl (by decide) (.slice Av2 _ cv2) ws2 t rfl rfl rfl HW.out.o HW.out.b HW.out.b.size HW.out.room ?_; intro v1 w4 ho hb hg hat; have n1 := Aside0.mk (HW.out.app (m := 3) hg ho hb); clear ho hb hg hat HW; have HW := n1; clear n1))
          go_meet
          exact ⟨_, _, rfl, KA, HW⟩
        | false =>
          have KA := Aside0.mk (show ws2 = wHeads a0 a1 a2 a3 ++ x ++ y by
            have z := HY.out
            rw [hfm] at z
            rw [KW2.out, ← Option.some.inj (show some [] = some y from z), List.append_nil])
          go_wp2
          go_meet
          exact ⟨_, _, rfl, KA, ⟨HW.out.weak (by omega)⟩⟩
      case rest =>
      obtain ⟨v3, ws3, rfl, KW3, HV⟩ := hcut
      clear HW e0 e1 e2 e3 e4 e5 f1 f2 f3 f4
      have HW := HV
      clear HV
      obtain ⟨e0, e1, e2, e3, e4, e5, f1, f2, f3, f4⟩ := HW.out.k.cells
      obtain ⟨Av3, cv3, rfl⟩ := own_slice HW.out.o
      have hn3 : ws3.length ≤ 1099511627777 := by have := HW.out.n; omega
      have HIT := Aside0.mk (join_calls _ ws3 r wc _ HW.out.o hn3 (by rw [KW3.out]; exact HJ.out))
      clear hn3 e0 e1 e2 e3 e4 e5 f1 f2 f3 f4
      go_wp2_with (first | (go_at_call 47; refine HIT.out.mono ?_; rintro e w3 ⟨rfl, hb⟩; have n1 := Aside0.mk (below_step HW.out.b hb); clear hb HW HIT; have HW := n1; clear n1))
      go_ret
      exact ⟨rfl, HW.out⟩
end Go.Proofs.YtnegnanlbdncmaaDoor.P

namespace Go.Proofs.YtnegnanlbdncmaaDoor.P
open Go.RowKit Go.Maps Go.Proofs.YtnegnanlbdncmaaDoorW.PrintWords Go.Proofs.YtnegnanlbdncmaaDoorW.PrintLast Go.Proofs.YtnegnanlbdncmaaDoorW.PrintMore
attribute [local go_sem] max2_int min2_int max_two min_two max_three min_three max_four min_four
attribute [local go_sem ↓] Go.wp_at_zero Go.wp_at_succ
set_option linter.unusedVariables false
set_option linter.unusedSimpArgs false
theorem wsF_length (F : List S49 → Option (List UInt8)) : ∀ (l : List S49) (ws : List (List UInt8)), wsF F l = some ws → ws.length = l.length
  | [], ws, h => by
    obtain rfl := Option.some.inj (show some [] = some ws from h)
    rfl
  | x :: t, ws, h => by
    obtain ⟨s, _, h⟩ := Option.bind_eq_some_iff.1 (show (stF F x).bind (fun s => (wsF F t).bind fun r => some (s :: r)) = some ws from h)
    obtain ⟨r, hr, h⟩ := Option.bind_eq_some_iff.1 h
    obtain rfl := Option.some.inj h
    rw [List.length_cons, List.length_cons, wsF_length F t r hr]
theorem wsF_snoc (F : List S49 → Option (List UInt8)) : ∀ (l : List S49) (ws : List (List UInt8)) (k : Nat) (x : S49), wsF F l = some ws → l[k]? = some x → ∃ s, stF F x = some s ∧ ws.take (k + 1) = ws.take k ++ [s]
  | [], ws, k, x, h, hk => by simp at hk
  | y :: t, ws, k, x, h, hk => by
    obtain ⟨s, hs, h⟩ := Option.bind_eq_some_iff.1 (show (stF F y).bind (fun s => (wsF F t).bind fun r => some (s :: r)) = some ws from h)
    obtain ⟨r, hr, h⟩ := Option.bind_eq_some_iff.1 h
    obtain rfl := Option.some.inj h
    cases k with
    | zero =>
      obtain rfl := Option.some.inj (show some y = some x from hk)
      exact ⟨s, hs, rfl⟩
    | succ k =>
      obtain ⟨s', h1, h2⟩ := wsF_snoc F t r k x hr (by simpa using hk)
      exact ⟨s', h1, by rw [List.take_succ_cons, List.take_succ_cons, h2, List.cons_append]⟩
set_option maxHeartbeats 2000000 in
set_option maxRecDepth 100000 in
theorem joined_of (F : List S49 → Option (List UInt8)) (hF : TSays F) : TSays (joF F) := by
  intro A c l r w hT hC hc h
  unfold joF at h
  split at h
  case isFalse => cases h
  rename_i hlen
  obtain ⟨ws, hws, h1⟩ := Option.bind_eq_some_iff.1 h
  have hwl := wsF_length F l ws hws
  have HF := Aside0.mk hF
  have HT := Aside0.mk hT
  have HC := Aside0.mk hC
  have HWS := Aside0.mk hws
  have HJ := Aside0.mk h1
  have HLN := Aside0.mk hlen
  have HWL := Aside0.mk hwl
  have hlx : l.length ≤ 9223372036854775807 := by omega
  clear hF hT hC h h1 hws hwl hlen
  go_enter Tryd.func27, Tryd.ntmps27
  go_wp2
  go_loopg [3, 8] l.length (fun gg p3 p8 wr => ∃ (kk : Nat) (v : Value), kk ≤ l.length ∧ l.length - kk ≤ gg ∧ p3 = v ∧ p8 = .int .i64 kk ∧ Aside0 (wr.ownsRow w.heap.size 9 1 v kk (encs sV (ws.take kk))) ∧ Aside0 (Below w.heap.size w wr))
  case atStart => exact ⟨0, _, Nat.zero_le _, by omega, rfl, rfl, ⟨own_nil w _ _ _⟩, ⟨Below.refl _ _⟩⟩
  case round =>
    obtain ⟨kk, vv, hkk, hgk, rfl, rfl, HO, HB⟩ := hrel
    obtain ⟨Av, cv, rfl⟩ := own_slice HO.out
    by_cases hlt : kk < l.length
    · have hltz : decide ((kk : Int) < (l.length : Int)) = true := decide_eq_true (by omega)
      have p1 : 0 ≤ (kk : Int) := by omega
      have q1 : (kk : Int) < (l.length : Int) := by omega
      obtain ⟨ad, A4, c4, A5, c5, e1, g0, g1, g2, g3, g4, g5, hc4, H4, hc5, H5⟩ := at_T49 (Kd.C_below HC.out HB.out) (kk : Int) p1 q1
      cases e1
      rw [Int.toNat_natCast] at g0 g1 g2 g3 g4 g5
      have hki : l[kk]? = some (rd_T49 l (kk : Int)) := by
        unfold rd_T49
        rw [Int.toNat_natCast, List.getD_eq_getElem?_getD, List.getElem?_eq_getElem hlt]
        rfl
      obtain ⟨s, hs, hsn⟩ := wsF_snoc F l ws kk _ HWS.out hki
      have hcall := fun (o : Obj) => str_of F HF.out _ _ _ _ A4 c4 _ A5 c5 _ s (wr.alloc o) ((HT.out.below HB.out).below ((Below.refl _ _).alloc (Nat.le_refl _) o)) (Kd.C_below H4 ((Below.refl _ wr).alloc (Nat.le_refl _) o)) hc4 (Kd.C_below H5 ((Below.refl _ wr).alloc (Nat.le_refl _) o)) hc5 hs
      have HCL := Aside0.mk hcall
      have HSN := Aside0.mk hsn
      have hkl : (ws.take kk).length = kk := by rw [List.length_take, HWL.out]; omega
      have hrm : ((ws.take kk).length + 1) * 16 ≤ 140737488355328 := by rw [hkl]; have := HLN.out; omega
      have HKL := Aside0.mk hkl
      have HRM := Aside0.mk hrm
      have HO1 := HO.out
      have hoo : wr.ownsRow w.heap.size 9 1 (.slice Av kk cv) (ws.take kk).length (encs sV (ws.take kk)) := by rw [hkl]; exact HO1
      have HOO := Aside0.mk hoo
      clear hcall hsn hki hs H4 H5 hkl hrm HO1 hoo HO
      generalize rd_T49 l (kk : Int) = x at *
      replace p1 := eq_true p1
      replace q1 := eq_true q1
      go_wp2_with (first
        | (go_at_call 46; refine (HCL.out _).mono ?_; rintro e w3 ⟨rfl, hb⟩; unfold sV; have hb1 := below_step ((Below.refl _ wr).alloc (Nat.le_refl _) _) hb; have n1 := Aside0.mk (pw_own_below HOO.out hb1); have n2 := Aside0.mk (below_step HB.out hb1); clear hb hb1 HOO HB g0 g1 g2 g3 g4 g5 HCL; have HOO := n1; have HB := n2; clear n1 n2)
        | ((with_reducible refine gate_builtin (b := .append) (xs := #[.tmp 12, .tmp 15]) rfl ?_); at_builtin; refine print_append_of sV w.heap.size rfl (.tmp 12) (.tmp 15) 66 9 (.string ⟨#[]⟩) 16 rfl Tryd.underlying66 info9 rfl (by decide) (.slice Av kk cv) (ws.take kk) s rfl rfl rfl HOO.out HB.out HB.out.size HRM.out ?_; intro v1 w4 ho hb hg hat; have n1 := Aside0.mk ho; have n2 := Aside0.mk hb; clear ho hb hg hat HOO HB; have HOO := n1; have HB := n2; clear n1 n2; obtain ⟨A1, c1, rfl⟩ := own_slice HOO.out))
      go_roundg (l.length - (kk + 1))
      case measure => omega
      case rel =>
        refine ⟨kk + 1, _, by omega, by omega, rfl, by go_num, ⟨?_⟩, HB⟩
        have z := HOO.out
        rw [← HSN.out] at z
        rw [show (ws.take (kk + 1)).length = kk + 1 from by rw [HSN.out, List.length_append, HKL.out]; rfl] at z
        rw [show min kk ws.length = kk from by rw [HWL.out]; omega]
        exact z
    · have hltz : decide ((kk : Int) < (l.length : Int)) = false := decide_eq_false (by omega)
      obtain rfl : kk = l.length := by omega
      have he : ws.take l.length = ws := by rw [← HWL.out]; exact List.take_length ..
      have HO1 := HO.out
      rw [he, ← HWL.out] at HO1
      have HIT := Aside0.mk (join_calls _ ws r wr _ HO1 (by have := HLN.out; have := HWL.out; omega) HJ.out)
      rw [HWL.out] at HIT
      clear he HO1
      go_wp2_with (first | (go_at_call 47; refine HIT.out.mono ?_; rintro e w3 ⟨rfl, hb⟩; have n1 := Aside0.mk (below_step HB.out hb); clear hb HB HIT; have HB := n1; clear n1))
      go_ret
      exact ⟨rfl, HB.out⟩
theorem txF_says : ∀ k, TSays (txF k)
  | 0 => fun _ _ _ _ _ _ _ _ h => by cases h
  | k + 1 => joined_of (txF k) (txF_says k)
def impl_StmtsText.f (k : Nat) (l0 : List S49) : Option ByteArray := (impl_StmtsOk.f k l0).bind fun ok => if ok = true then (if l0.length = 0 then some ⟨#[45]⟩ else (txF k l0).bind fun t => some ⟨t.toArray⟩) else some ⟨#[]⟩
set_option maxHeartbeats 1000000 in
theorem impl_StmtsText.callsT (k : Nat) (A0 : Option Addr) (c0 : Nat) (l0 : List S49) (r : ByteArray) (w : World) (hT : Tab w) (hr0 : Kd.C k49 w A0 l0.length l0) (hc0 : l0.length ≤ c0) (h : impl_StmtsText.f k l0 = some r) :
    Calls Tryd.prog 11 #[.slice A0 l0.length c0] w fun e w' => e = .returned (.string r) ∧ Below w.heap.size w w' := by
  obtain ⟨ok, hok, h⟩ := Option.bind_eq_some_iff.1 h
  have HK := Aside0.mk (impl_StmtsOk.calls k A0 c0 l0 ok w hr0 hc0 hok)
  have HC := Aside0.mk hr0
  have HT := Aside0.mk hT
  clear hok hr0 hT
  cases ok with
  | false =>
    rw [if_neg (by decide)] at h
    obtain rfl := Option.some.inj h
    go_enter Tryd.func11, Tryd.ntmps11
    go_wp2_with (first | (go_at_call 10; refine HK.out.mono ?_; rintro e w1 ⟨rfl, hb⟩; have HB := Aside0.mk hb; clear hb HK))
    go_ret
    exact ⟨rfl, HB.out⟩
  | true =>
    rw [if_pos rfl] at h
    by_cases h0 : l0.length = 0
    · rw [if_pos h0] at h
      obtain rfl := Option.some.inj h
      have hz : ((l0.length : Int) == 0) = true := by simpa using h0
      clear h0
      go_enter Tryd.func11, Tryd.ntmps11
      go_wp2_with (first | (go_at_call 10; refine HK.out.mono ?_; rintro e w1 ⟨rfl, hb⟩; have HB := Aside0.mk hb; clear hb HK))
      go_ret
      exact ⟨rfl, HB.out⟩
    · rw [if_neg h0] at h
      obtain ⟨t, ht, h⟩ := Option.bind_eq_some_iff.1 h
      obtain rfl := Option.some.inj h
      have hz : ((l0.length : Int) == 0) = false := by simpa using h0
      have HF := Aside0.mk ht
      clear h0 ht h
      go_enter Tryd.func11, Tryd.ntmps11
      go_wp2_with (first
        | (go_at_call 10; refine HK.out.mono ?_; rintro e w1 ⟨rfl, hb⟩; have HB := Aside0.mk hb; clear hb HK)
        | (go_at_call 27; refine (txF_says k A0 c0 l0 t _ (HT.out.below HB.out) (Kd.C_below HC.out HB.out) hc0 HF.out).mono ?_; rintro e w2 ⟨rfl, hb⟩; unfold sV; have n1 := Aside0.mk (below_step HB.out hb); clear hb HB; have HB := n1; clear n1))
      go_ret
      exact ⟨rfl, HB.out⟩
end Go.Proofs.YtnegnanlbdncmaaDoor.P

namespace Go.Proofs.YtnegnanlbdncmaaDoor.P
open Go.RowKit Go.Proofs.YtnegnanlbdncmaaDoorW.PrintWords Go.Proofs.YtnegnanlbdncmaaDoorW.PrintLast Go.Proofs.YtnegnanlbdncmaaDoorW.PrintMore
attribute [local go_sem] max2_int min2_int max_two min_two max_three min_three max_four min_four
set_option linter.unusedVariables false
set_option linter.unusedSimpArgs false
mutual
def laws_FnProgSame.j0 : Nat → List (S49) → List (S49) → List (List (S49)) → Bool → Bool → Option (Bool)
  | 0, _, _, _, _, _ => none
  | k + 1, x3, x4, x5, x6, x40 => if x40 = true then (some false) else (if (x5.length : Int) ≥ 1 then (laws_FnProgSame.j1 k x3 x4 x5 x6 (decide ((x5.length : Int) ≤ 3))) else (laws_FnProgSame.j1 k x3 x4 x5 x6 false))
def laws_FnProgSame.j1 : Nat → List (S49) → List (S49) → List (List (S49)) → Bool → Bool → Option (Bool)
  | 0, _, _, _, _, _ => none
  | k + 1, x3, x4, x5, x6, x7 => laws_FnProgSame.l0 k x3 x4 x5 x6 x7 0
def laws_FnProgSame.l0 : Nat → List (S49) → List (S49) → List (List (S49)) → Bool → Bool → Int → Option (Bool)
  | 0, _, _, _, _, _, _ => none
  | k + 1, x3, x4, x5, x6, x7, x8 => if x8 < (x5.length : Int) then (if x7 = true then (if 0 ≤ x8 then ((impl_StmtsOk.f k (rd_L3 x5 x8)).bind fun t428 => (laws_FnProgSame.l0 k x3 x4 x5 x6 t428 (wrap64 (x8 + 1)))) else (none)) else (laws_FnProgSame.l0 k x3 x4 x5 x6 false (wrap64 (x8 + 1)))) else ((impl_ProgOk.f k x5).bind fun t429 => (if (x7 != t429) = true then (some false) else ((impl_StmtsOk.f k x3).bind fun t430 => (if t430 = true then ((impl_StmtsOk.f k x4).bind fun t431 => (if t431 = true then ((impl_StmtsText.f k x3).bind fun t432 => ((impl_StmtsText.f k x4).bind fun t433 => (some (x6 == (t432.toList == t433.toList))))) else (some (x6 == false)))) else (some (x6 == false))))))
end
def laws_FnProgSame.f (k : Nat) (l0 : List Int) : Option (Bool) := if (l0.length : Int) > 1048576 then (some true) else ((spec_DrawStmtsSame.f k l0).bind fun bt413 => ((spec_DrawProgOk.f k l0).bind fun t419 => ((impl_StmtsSame.f k bt413.1 bt413.2).bind fun t422 => ((spec_StmtsSame.f k bt413.1 bt413.2).bind fun t423 => (if (t422 != t423) = true then (laws_FnProgSame.j0 k bt413.1 bt413.2 t419 t422 true) else ((impl_StmtsSame.f k bt413.2 bt413.1).bind fun t424 => (if (t422 != t424) = true then (laws_FnProgSame.j0 k bt413.1 bt413.2 t419 t422 true) else ((impl_ProgOk.f k t419).bind fun t425 => ((spec_ProgOk.f k t419).bind fun t426 => (laws_FnProgSame.j0 k bt413.1 bt413.2 t419 t422 (t425 != t426)))))))))))
set_option maxHeartbeats 8000000 in
set_option maxRecDepth 100000 in
theorem laws_FnProgSame.calls (k : Nat) (A0 : Option Addr) (c0 : Nat) (l0 : List Int) (r : Bool) (w : World) (hT_ : Tab w) (hr0 : Kd.C (Kd.int .u8) w A0 l0.length l0) (hc0 : l0.length ≤ c0) (h : laws_FnProgSame.f k l0 = some r) :
    Calls Tryd.prog 5 #[.slice A0 l0.length c0] w fun e w' => e = .returned (.bool r) ∧ Below w.heap.size w w' := by
  have HT_ := Aside0.mk hT_; clear hT_; have HR0 := Aside0.mk hr0; have HC0 := Aside0.mk hc0; clear hr0 hc0; have HB := Aside0.mk (Below.refl w.heap.size w)
  have H : (if (l0.length : Int) > 1048576 then (some true) else ((spec_DrawStmtsSame.f k l0).bind fun bt413 => ((spec_DrawProgOk.f k l0).bind fun t419 => ((impl_StmtsSame.f k bt413.1 bt413.2).bind fun t422 => ((spec_StmtsSame.f k bt413.1 bt413.2).bind fun t423 => (if (t422 != t423) = true then (laws_FnProgSame.j0 k bt413.1 bt413.2 t419 t422 true) else ((impl_StmtsSame.f k bt413.2 bt413.1).bind fun t424 => (if (t422 != t424) = true then (laws_FnProgSame.j0 k bt413.1 bt413.2 t419 t422 true) else ((impl_ProgOk.f k t419).bind fun t425 => ((spec_ProgOk.f k t419).bind fun t426 => (laws_FnProgSame.j0 k bt413.1 bt413.2 t419 t422 (t425 != t426)))))))))))) = some r := h
  clear h
  by_cases c2 : (l0.length : Int) > 1048576
  · rw [if_pos c2] at H; have c2b0 : decide (1048576 < (l0.length : Int)) = true := decide_eq_true c2
    have c2b1 : decide (1048576 < l0.length) = true := decide_eq_true (by omega)
    clear c2; obtain rfl := Option.some.inj H; go_enter Tryd.func5, Tryd.ntmps5
    go_wp2
    go_ret
    exact ⟨by first | rfl | (simp [errW_none, errW_some] <;> rfl) | (simp [*, errW_none, errW_some] <;> rfl), by repeat (first | (with_reducible first | exact HB.out | apply below_alloc | apply pw_below_drewN | apply below_drew1) | exact HB.out)⟩
  · rw [if_neg c2] at H; have c2b0 : decide (1048576 < (l0.length : Int)) = false := decide_eq_false c2
    have c2b1 : decide (1048576 < l0.length) = false := decide_eq_false (by omega)
    clear c2; replace H := Option.bind_eq_some_iff.mp H; obtain ⟨⟨t413, t416⟩, A30, H⟩ := H; replace H : ((spec_DrawProgOk.f k l0).bind fun t419 => ((impl_StmtsSame.f k t413 t416).bind fun t422 => ((spec_StmtsSame.f k t413 t416).bind fun t423 => (if (t422 != t423) = true then (laws_FnProgSame.j0 k t413 t416 t419 t422 true) else ((impl_StmtsSame.f k t416 t413).bind fun t424 => (if (t422 != t424) = true then (laws_FnProgSame.j0 k t413 t416 t419 t422 true) else ((impl_ProgOk.f k t419).bind fun t425 => ((spec_ProgOk.f k t419).bind fun t426 => (laws_FnProgSame.j0 k t413 t416 t419 t422 (t425 != t426)))))))))) = some r := H; have A3 := Aside0.mk A30; clear A30; replace H := Option.bind_eq_some_iff.mp H; obtain ⟨t419, A40, H⟩ := H; replace H : ((impl_StmtsSame.f k t413 t416).bind fun t422 => ((spec_StmtsSame.f k t413 t416).bind fun t423 => (if (t422 != t423) = true then (laws_FnProgSame.j0 k t413 t416 t419 t422 true) else ((impl_StmtsSame.f k t416 t413).bind fun t424 => (if (t422 != t424) = true then (laws_FnProgSame.j0 k t413 t416 t419 t422 true) else ((impl_ProgOk.f k t419).bind fun t425 => ((spec_ProgOk.f k t419).bind fun t426 => (laws_FnProgSame.j0 k t413 t416 t419 t422 (t425 != t426))))))))) = some r := H; have A4 := Aside0.mk A40; clear A40; replace H := Option.bind_eq_some_iff.mp H; obtain ⟨t422, A50, H⟩ := H; replace H : ((spec_StmtsSame.f k t413 t416).bind fun t423 => (if (t422 != t423) = true then (laws_FnProgSame.j0 k t413 t416 t419 t422 true) else ((impl_StmtsSame.f k t416 t413).bind fun t424 => (if (t422 != t424) = true then (laws_FnProgSame.j0 k t413 t416 t419 t422 true) else ((impl_ProgOk.f k t419).bind fun t425 => ((spec_ProgOk.f k t419).bind fun t426 => (laws_FnProgSame.j0 k t413 t416 t419 t422 (t425 != t426)))))))) = some r := H; have A5 := Aside0.mk A50; clear A50; have HC6 := Aside0.mk H; clear H; go_enter Tryd.func5, Tryd.ntmps5
    go_upto_region 6 with (first | ((with_reducible refine gate_callee (f := 16) rfl ?_); refine goesM_ (some 14) Tryd.func16 #[.slice A0 l0.length c0] ?_; (with_reducible refine (spec_DrawStmtsSame.calls k _ _ l0 t413 t416 _ ?side1 ?side2 A3.out).mono ?_); (case side1 => repeat (first | exact HR0.out | (with_reducible refine Kd.C_alloc ?_ _) | (with_reducible refine Kd.C_drewN ?_ _) | (with_reducible refine Kd.C_drew ?_))); (case side2 => exact HC0.out); rintro e w7 ⟨v414, v417, rfl, ho0, ho1, hb⟩; refine ⟨_, rfl, ?_⟩; have n0_ := Aside0.mk (Kd.N_lower (Kd.N_mono (ok' := fun _ => True) ho0 (fun _ _ => trivial)) (below_size (q0_ HB))); have n1_ := Aside0.mk (Kd.N_lower (Kd.N_mono (ok' := fun _ => True) ho1 (fun _ _ => trivial)) (below_size (q0_ HB))); have n2_ := Aside0.mk (below_step (q0_ HB) hb); clear HB; have HO415 := n0_; have HO418 := n1_; have HB := n2_; clear n0_ n1_ n2_; (try clear hb); (try clear hb2); (try clear hk); (try clear hi); (try clear ho0); (try clear ho1)) | ((with_reducible refine gate_callee (f := 17) rfl ?_); refine goesM_ (some 18) Tryd.func17 #[.slice A0 l0.length c0] ?_; (with_reducible refine (spec_DrawProgOk.calls k _ _ l0 t419 _ ?side1 ?side2 A4.out).mono ?_); (case side1 => repeat (first | exact (Kd.C_below HR0.out HB.out) | (with_reducible refine Kd.C_alloc ?_ _) | (with_reducible refine Kd.C_drewN ?_ _) | (with_reducible refine Kd.C_drew ?_))); (case side2 => exact HC0.out); rintro e w8 ⟨v420, rfl, ho0, hb⟩; refine ⟨_, rfl, ?_⟩; have n0_ := Aside0.mk (Kd.N_mono (ok' := fun _ => True) (Kd.N_below (q11_ HO415) hb) (fun _ _ => trivial)); have n1_ := Aside0.mk (Kd.N_mono (ok' := fun _ => True) (Kd.N_below (q11_ HO418) hb) (fun _ _ => trivial)); have n2_ := Aside0.mk (Kd.N_lower (Kd.N_mono (ok' := fun _ => True) ho0 (fun _ _ => trivial)) (below_size (q0_ HB))); have n3_ := Aside0.mk (below_step (q0_ HB) hb); clear HO415; clear HO418; clear HB; have HO415 := n0_; have HO418 := n1_; have HO421 := n2_; have HB := n3_; clear n0_ n1_ n2_ n3_; (try clear hb); (try clear hb2); (try clear hk); (try clear hi); (try clear ho0); obtain ⟨Ao9, co9, eo9⟩ := Kd.N_slice HO415.out; subst eo9; obtain ⟨Ao10, co10, eo10⟩ := Kd.N_slice HO418.out; subst eo10) | ((with_reducible refine gate_callee (f := 18) rfl ?_); refine goesM_ (some 21) Tryd.func18 #[.slice Ao9 t413.length co9, .slice Ao10 t416.length co10] ?_; (with_reducible refine (impl_StmtsSame.calls k _ _ t413 _ _ t416 t422 _ ?side1 ?side2 ?side3 ?side4 A5.out).mono ?_); (case side1 => repeat (first | exact (Kd.N_reads' HO415.out).2.2 | (with_reducible refine Kd.C_alloc ?_ _) | (with_reducible refine Kd.C_drewN ?_ _) | (with_reducible refine Kd.C_drew ?_))); (case side2 => exact (Kd.N_reads' HO415.out).2.1); (case side3 => repeat (first | exact (Kd.N_reads' HO418.out).2.2 | (with_reducible refine Kd.C_alloc ?_ _) | (with_reducible refine Kd.C_drewN ?_ _) | (with_reducible refine Kd.C_drew ?_))); (case side4 => exact (Kd.N_reads' HO418.out).2.1); rintro e w11 ⟨rfl, hb⟩; refine ⟨_, rfl, ?_⟩; have n0_ := Aside0.mk (Kd.N_below (q11_ HO415) hb); have n1_ := Aside0.mk (Kd.N_below (q11_ HO418) hb); have n2_ := Aside0.mk (Kd.N_below (q11_ HO421) hb); have n3_ := Aside0.mk (below_step (q0_ HB) hb); clear HO415; clear HO418; clear HO421; clear HB; have HO415 := n0_; have HO418 := n1_; have HO421 := n2_; have HB := n3_; clear n0_ n1_ n2_ n3_; (try clear hb); (try clear hb2); (try clear hk); (try clear hi)))
    (try simp only [Act.put, List.setIfInBounds_toArray, List.set_cons_zero, List.set_cons_succ])
    go_cut [40] (fun v40 wc => ∃ (kq : Nat) (x40_5 : Bool), v40 = .bool x40_5 ∧ Aside0 (laws_FnProgSame.j0 kq t413 t416 t419 t422 x40_5 = some r) ∧ Aside0 (kq ≤ k) ∧ Aside0 (Kd.N k49 49 wc w.heap.size (fun _ => True) (.slice Ao9 t413.length co9) t413) ∧ Aside0 (Kd.N k49 49 wc w.heap.size (fun _ => True) (.slice Ao10 t416.length co10) t416) ∧ Aside0 (Kd.N (Kd.slice 49 k49) 23 wc w.heap.size (fun _ => True) v420 t419) ∧ Aside0 (Below w.heap.size w wc))
    case first =>
      have H := HC6.out; clear HC6; replace H := Option.bind_eq_some_iff.mp H; obtain ⟨t423, A120, H⟩ := H; replace H : (if (t422 != t423) = true then (laws_FnProgSame.j0 k t413 t416 t419 t422 true) else ((impl_StmtsSame.f k t416 t413).bind fun t424 => (if (t422 != t424) = true then (laws_FnProgSame.j0 k t413 t416 t419 t422 true) else ((impl_ProgOk.f k t419).bind fun t425 => ((spec_ProgOk.f k t419).bind fun t426 => (laws_FnProgSame.j0 k t413 t416 t419 t422 (t425 != t426))))))) = some r := H; have A12 := Aside0.mk A120; clear A120
      by_cases c13 : (t422 != t423) = true
      · rw [if_pos c13] at H; have c13b0 : (t422 != t423) = true := c13
        (try (have c13b1 : decide (t422 = t423) = false := by simpa using c13))
        (try (have c13b2 : (t422 == t423) = false := by simpa using c13))
        (try (have c13b3 : ¬ (t422 = t423) := by simpa using c13))
        clear c13
        (first | rw [c13b0] | (simp only [i64_w, i32_w]; rw [c13b0]) | skip)
        have H' := Aside0.mk H; clear H
        go_wp2_with (first | ((with_reducible refine gate_callee (f := 19) rfl ?_); refine goesM_ (some 25) Tryd.func19 #[.slice Ao9 t413.length co9, .slice Ao10 t416.length co10] ?_; (with_reducible refine (spec_StmtsSame.calls k _ _ t413 _ _ t416 t423 _ ?side1 ?side2 ?side3 ?side4 A12.out).mono ?_); (case side1 => repeat (first | exact (Kd.N_reads' HO415.out).2.2 | (with_reducible refine Kd.C_alloc ?_ _) | (with_reducible refine Kd.C_drewN ?_ _) | (with_reducible refine Kd.C_drew ?_))); (case side2 => exact (Kd.N_reads' HO415.out).2.1); (case side3 => repeat (first | exact (Kd.N_reads' HO418.out).2.2 | (with_reducible refine Kd.C_alloc ?_ _) | (with_reducible refine Kd.C_drewN ?_ _) | (with_reducible refine Kd.C_drew ?_))); (case side4 => exact (Kd.N_reads' HO418.out).2.1); rintro e w14 ⟨rfl, hb⟩; refine ⟨_, rfl, ?_⟩; have n0_ := Aside0.mk (Kd.N_below (q11_ HO415) hb); have n1_ := Aside0.mk (Kd.N_below (q11_ HO418) hb); have n2_ := Aside0.mk (Kd.N_below (q11_ HO421) hb); have n3_ := Aside0.mk (below_step (q0_ HB) hb); clear HO415; clear HO418; clear HO421; clear HB; have HO415 := n0_; have HO418 := n1_; have HO421 := n2_; have HB := n3_; clear n0_ n1_ n2_ n3_; (try clear hb); (try clear hb2); (try clear hk); (try clear hi)))
        go_meet
        case rel => exact ⟨_, (true), (by first | rfl | (simp; done) | (simp [*]; done)), H', ⟨by first | omega | exact Nat.le_refl _⟩, ⟨by (with_reducible repeat (first | apply Kd.N_alloc | apply Kd.N_drewN | apply Kd.N_drew)); exact HO415.out⟩, ⟨by (with_reducible repeat (first | apply Kd.N_alloc | apply Kd.N_drewN | apply Kd.N_drew)); exact HO418.out⟩, ⟨by (with_reducible repeat (first | apply Kd.N_alloc | apply Kd.N_drewN | apply Kd.N_drew)); exact HO421.out⟩, ⟨by repeat (first | (with_reducible first | exact HB.out | apply below_alloc | apply pw_below_drewN | apply below_drew1) | exact HB.out)⟩⟩
      · rw [if_neg c13] at H
        have c13b0 : (t422 != t423) = false := by simpa using c13
        (try (have c13b1 : decide (t422 = t423) = true := by simpa using c13))
        (try (have c13b2 : (t422 == t423) = true := by simpa using c13))
        clear c13
        (first | rw [c13b0] | (simp only [i64_w, i32_w]; rw [c13b0]) | skip)
        replace H := Option.bind_eq_some_iff.mp H; obtain ⟨t424, A150, H⟩ := H; replace H : (if (t422 != t424) = true then (laws_FnProgSame.j0 k t413 t416 t419 t422 true) else ((impl_ProgOk.f k t419).bind fun t425 => ((spec_ProgOk.f k t419).bind fun t426 => (laws_FnProgSame.j0 k t413 t416 t419 t422 (t425 != t426))))) = some r := H; have A15 := Aside0.mk A150; clear A150
        by_cases c16 : (t422 != t424) = true
        · rw [if_pos c16] at H; have c16b0 : (t422 != t424) = true := c16
          (try (have c16b1 : decide (t422 = t424) = false := by simpa using c16))
          (try (have c16b2 : (t422 == t424) = false := by simpa using c16))
          (try (have c16b3 : ¬ (t422 = t424) := by simpa using c16))
          clear c16; have H' := Aside0.mk H; clear H
          go_wp2_with (first | ((with_reducible refine gate_callee (f := 19) rfl ?_); refine goesM_ (some 25) Tryd.func19 #[.slice Ao9 t413.length co9, .slice Ao10 t416.length co10] ?_; (with_reducible refine (spec_StmtsSame.calls k _ _ t413 _ _ t416 t423 _ ?side1 ?side2 ?side3 ?side4 A12.out).mono ?_); (case side1 => repeat (first | exact (Kd.N_reads' HO415.out).2.2 | (with_reducible refine Kd.C_alloc ?_ _) | (with_reducible refine Kd.C_drewN ?_ _) | (with_reducible refine Kd.C_drew ?_))); (case side2 => exact (Kd.N_reads' HO415.out).2.1); (case side3 => repeat (first | exact (Kd.N_reads' HO418.out).2.2 | (with_reducible refine Kd.C_alloc ?_ _) | (with_reducible refine Kd.C_drewN ?_ _) | (with_reducible refine Kd.C_drew ?_))); (case side4 => exact (Kd.N_reads' HO418.out).2.1); rintro e w17 ⟨rfl, hb⟩; refine ⟨_, rfl, ?_⟩; have n0_ := Aside0.mk (Kd.N_below (q11_ HO415) hb); have n1_ := Aside0.mk (Kd.N_below (q11_ HO418) hb); have n2_ := Aside0.mk (Kd.N_below (q11_ HO421) hb); have n3_ := Aside0.mk (below_step (q0_ HB) hb); clear HO415; clear HO418; clear HO421; clear HB; have HO415 := n0_; have HO418 := n1_; have HO421 := n2_; have HB := n3_; clear n0_ n1_ n2_ n3_; (try clear hb); (try clear hb2); (try clear hk); (try clear hi)) | (go_at_call 18; (with_reducible refine (impl_StmtsSame.calls k _ _ t416 _ _ t413 t424 _ ?side1 ?side2 ?side3 ?side4 A15.out).mono ?_); (case side1 => repeat (first | exact (Kd.N_reads' HO418.out).2.2 | (with_reducible refine Kd.C_alloc ?_ _) | (with_reducible refine Kd.C_drewN ?_ _) | (with_reducible refine Kd.C_drew ?_))); (case side2 => exact (Kd.N_reads' HO418.out).2.1); (case side3 => repeat (first | exact (Kd.N_reads' HO415.out).2.2 | (with_reducible refine Kd.C_alloc ?_ _) | (with_reducible refine Kd.C_drewN ?_ _) | (with_reducible refine Kd.C_drew ?_))); (case side4 => exact (Kd.N_reads' HO415.out).2.1); rintro e w18 ⟨rfl, hb⟩; have n0_ := Aside0.mk (Kd.N_below (q11_ HO415) hb); have n1_ := Aside0.mk (Kd.N_below (q11_ HO418) hb); have n2_ := Aside0.mk (Kd.N_below (q11_ HO421) hb); have n3_ := Aside0.mk (below_step (q0_ HB) hb); clear HO415; clear HO418; clear HO421; clear HB; have HO415 := n0_; have HO418 := n1_; have HO421 := n2_; have HB := n3_; clear n0_ n1_ n2_ n3_; (try clear hb); (try clear hb2); (try clear hk); (try clear hi)))
          go_meet
          case rel => exact ⟨_, (true), (by first | rfl | (simp; done) | (simp [*]; done)), H', ⟨by first | omega | exact Nat.le_refl _⟩, ⟨by (with_reducible repeat (first | apply Kd.N_alloc | apply Kd.N_drewN | apply Kd.N_drew)); exact HO415.out⟩, ⟨by (with_reducible repeat (first | apply Kd.N_alloc | apply Kd.N_drewN | apply Kd.N_drew)); exact HO418.out⟩, ⟨by (with_reducible repeat (first | apply Kd.N_alloc | apply Kd.N_drewN | apply Kd.N_drew)); exact HO421.out⟩, ⟨by repeat (first | (with_reducible first | exact HB.out | apply below_alloc | apply pw_below_drewN | apply below_drew1) | exact HB.out)⟩⟩
        · rw [if_neg c16] at H
          have c16b0 : (t422 != t424) = false := by simpa using c16
          (try (have c16b1 : decide (t422 = t424) = true := by simpa using c16))
          (try (have c16b2 : (t422 == t424) = true := by simpa using c16))
          clear c16; replace H := Option.bind_eq_some_iff.mp H; obtain ⟨t425, A190, H⟩ := H; replace H : ((spec_ProgOk.f k t419).bind fun t426 => (laws_FnProgSame.j0 k t413 t416 t419 t422 (t425 != t426))) = some r := H; have A19 := Aside0.mk A190; clear A190; replace H := Option.bind_eq_some_iff.mp H; obtain ⟨t426, A200, H⟩ := H; replace H : (laws_FnProgSame.j0 k t413 t416 t419 t422 (t425 != t426)) = some r := H; have A20 := Aside0.mk A200; clear A200; have H' := Aside0.mk H; clear H
          go_wp2_with (first | ((with_reducible refine gate_callee (f := 19) rfl ?_); refine goesM_ (some 25) Tryd.func19 #[.slice Ao9 t413.length co9, .slice Ao10 t416.length co10] ?_; (with_reducible refine (spec_StmtsSame.calls k _ _ t413 _ _ t416 t423 _ ?side1 ?side2 ?side3 ?side4 A12.out).mono ?_); (case side1 => repeat (first | exact (Kd.N_reads' HO415.out).2.2 | (with_reducible refine Kd.C_alloc ?_ _) | (with_reducible refine Kd.C_drewN ?_ _) | (with_reducible refine Kd.C_drew ?_))); (case side2 => exact (Kd.N_reads' HO415.out).2.1); (case side3 => repeat (first | exact (Kd.N_reads' HO418.out).2.2 | (with_reducible refine Kd.C_alloc ?_ _) | (with_reducible refine Kd.C_drewN ?_ _) | (with_reducible refine Kd.C_drew ?_))); (case side4 => exact (Kd.N_reads' HO418.out).2.1); rintro e w21 ⟨rfl, hb⟩; refine ⟨_, rfl, ?_⟩; have n0_ := Aside0.mk (Kd.N_below (q11_ HO415) hb); have n1_ := Aside0.mk (Kd.N_below (q11_ HO418) hb); have n2_ := Aside0.mk (Kd.N_below (q11_ HO421) hb); have n3_ := Aside0.mk (below_step (q0_ HB) hb); clear HO415; clear HO418; clear HO421; clear HB; have HO415 := n0_; have HO418 := n1_; have HO421 := n2_; have HB := n3_; clear n0_ n1_ n2_ n3_; (try clear hb); (try clear hb2); (try clear hk); (try clear hi)) | (go_at_call 18; (with_reducible refine (impl_StmtsSame.calls k _ _ t416 _ _ t413 t424 _ ?side1 ?side2 ?side3 ?side4 A15.out).mono ?_); (case side1 => repeat (first | exact (Kd.N_reads' HO418.out).2.2 | (with_reducible refine Kd.C_alloc ?_ _) | (with_reducible refine Kd.C_drewN ?_ _) | (with_reducible refine Kd.C_drew ?_))); (case side2 => exact (Kd.N_reads' HO418.out).2.1); (case side3 => repeat (first | exact (Kd.N_reads' HO415.out).2.2 | (with_reducible refine Kd.C_alloc ?_ _) | (with_reducible refine Kd.C_drewN ?_ _) | (with_reducible refine Kd.C_drew ?_))); (case side4 => exact (Kd.N_reads' HO415.out).2.1); rintro e w22 ⟨rfl, hb⟩; have n0_ := Aside0.mk (Kd.N_below (q11_ HO415) hb); have n1_ := Aside0.mk (Kd.N_below (q11_ HO418) hb); have n2_ := Aside0.mk (Kd.N_below (q11_ HO421) hb); have n3_ := Aside0.mk (below_step (q0_ HB) hb); clear HO415; clear HO418; clear HO421; clear HB; have HO415 := n0_; have HO418 := n1_; have HO421 := n2_; have HB := n3_; clear n0_ n1_ n2_ n3_; (try clear hb); (try clear hb2); (try clear hk); (try clear hi); obtain ⟨Ao23, co23, eo23⟩ := Kd.N_slice HO421.out; subst eo23) | (go_at_call 20; (with_reducible refine (impl_ProgOk.calls k _ _ t419 t425 _ ?side1 ?side2 A19.out).mono ?_); (case side1 => repeat (first | exact (Kd.N_reads' HO421.out).2.2 | (with_reducible refine Kd.C_alloc ?_ _) | (with_reducible refine Kd.C_drewN ?_ _) | (with_reducible refine Kd.C_drew ?_))); (case side2 => exact (Kd.N_reads' HO421.out).2.1); rintro e w24 ⟨rfl, hb⟩; have n0_ := Aside0.mk (Kd.N_below (q11_ HO415) hb); have n1_ := Aside0.mk (Kd.N_below (q11_ HO418) hb); have n2_ := Aside0.mk (Kd.N_below (q11_ HO421) hb); have n3_ := Aside0.mk (below_step (q0_ HB) hb); clear HO415; clear HO418; clear HO421; clear HB; have HO415 := n0_; have HO418 := n1_; have HO421 := n2_; have HB := n3_; clear n0_ n1_ n2_ n3_; (try clear hb); (try clear hb2); (try clear hk); (try clear hi)) | (go_at_call 21; (with_reducible refine (spec_ProgOk.calls k _ _ t419 t426 _ ?side1 ?side2 A20.out).mono ?_); (case side1 => repeat (first | exact (Kd.N_reads' HO421.out).2.2 | (with_reducible refine Kd.C_alloc ?_ _) | (with_reducible refine Kd.C_drewN ?_ _) | (with_reducible refine Kd.C_drew ?_))); (case side2 => exact (Kd.N_reads' HO421.out).2.1); rintro e w25 ⟨rfl, hb⟩; have n0_ := Aside0.mk (Kd.N_below (q11_ HO415) hb); have n1_ := Aside0.mk (Kd.N_below (q11_ HO418) hb); have n2_ := Aside0.mk (Kd.N_below (q11_ HO421) hb); have n3_ := Aside0.mk (below_step (q0_ HB) hb); clear HO415; clear HO418; clear HO421; clear HB; have HO415 := n0_; have HO418 := n1_; have HO421 := n2_; have HB := n3_; clear n0_ n1_ n2_ n3_; (try clear hb); (try clear hb2); (try clear hk); (try clear hi)))
          go_meet
          case rel => exact ⟨_, ((t425 != t426)), (by first | rfl | (simp; done) | (simp [*]; done)), H', ⟨by first | omega | exact Nat.le_refl _⟩, ⟨by (with_reducible repeat (first | apply Kd.N_alloc | apply Kd.N_drewN | apply Kd.N_drew)); exact HO415.out⟩, ⟨by (with_reducible repeat (first | apply Kd.N_alloc | apply Kd.N_drewN | apply Kd.N_drew)); exact HO418.out⟩, ⟨by (with_reducible repeat (first | apply Kd.N_alloc | apply Kd.N_drewN | apply Kd.N_drew)); exact HO421.out⟩, ⟨by repeat (first | (with_reducible first | exact HB.out | apply below_alloc | apply pw_below_drewN | apply below_drew1) | exact HB.out)⟩⟩
    case rest =>
      clear HC6; (try clear c1); (try clear c2); (try clear c2b0); (try clear c2b1); (try clear p2); (try clear c5); (try clear c13); (try clear c13b0); (try clear c13b1); (try clear c13b2); (try clear c16); (try clear c16b0); (try clear c16b1); (try clear c16b2); (try clear c17); (try clear c18); (try clear c19); obtain ⟨kq, x40_5, rfl, HA, HJ5, HO_3, HO_4, HO_5, HB⟩ := hcut
      cases kq with
      | zero => exact absurd HA.out (by simp [laws_FnProgSame.j0])
      | succ kj5 =>
        have H := HA.out; clear HA; simp only [laws_FnProgSame.j0] at H
        by_cases c26 : x40_5 = true
        · subst c26
          have H1 : (some false) = some r := by rw [if_pos rfl] at H; exact H
          clear H; have H := H1; clear H1; obtain rfl := Option.some.inj H
          go_wp2
          go_ret
          exact ⟨by first | rfl | (simp [errW_none, errW_some] <;> rfl) | (simp [*, errW_none, errW_some] <;> rfl), by repeat (first | (with_reducible first | exact HB.out | apply below_alloc | apply pw_below_drewN | apply below_drew1) | exact HB.out)⟩
        · replace c26 := Bool.eq_false_iff.mpr c26; subst c26
          have H1 : (if (t419.length : Int) ≥ 1 then (laws_FnProgSame.j1 kj5 t413 t416 t419 t422 (decide ((t419.length : Int) ≤ 3))) else (laws_FnProgSame.j1 kj5 t413 t416 t419 t422 false)) = some r := by rw [if_neg (show ¬ (false = true) by decide)] at H; exact H
          clear H; have H := H1; clear H1; have HC27 := Aside0.mk H; clear H
          go_upto_region 8 with (fail)
          go_cut [7] (fun v7 wc => ∃ (kq : Nat) (x7_26 : Bool), v7 = .bool x7_26 ∧ Aside0 (laws_FnProgSame.j1 kq t413 t416 t419 t422 x7_26 = some r) ∧ Aside0 (kq ≤ kj5) ∧ Aside0 (Kd.N k49 49 wc w.heap.size (fun _ => True) (.slice Ao9 t413.length co9) t413) ∧ Aside0 (Kd.N k49 49 wc w.heap.size (fun _ => True) (.slice Ao10 t416.length co10) t416) ∧ Aside0 (Kd.N (Kd.slice 49 k49) 23 wc w.heap.size (fun _ => True) v420 t419) ∧ Aside0 (Below w.heap.size w wc))
          case first =>
            have H := HC27.out; clear HC27
            by_cases c28 : (t419.length : Int) ≥ 1
            · rw [if_pos c28] at H; have c28b0 : decide (1 ≤ (t419.length : Int)) = true := decide_eq_true c28
              have c28b1 : decide (1 ≤ t419.length) = true := decide_eq_true (by omega)
              clear c28
              (first | rw [c28b0] | (simp only [i64_w, i32_w]; rw [c28b0]) | skip)
              have H' := Aside0.mk H; clear H; obtain ⟨Ao29, co29, eo29⟩ := Kd.N_slice HO_5.out; subst eo29
              go_wp2
              go_meet
              case rel => exact ⟨_, (decide ((t419.length : Int) ≤ 3)), (by first | rfl | (simp; done) | (simp [*]; done)), H', ⟨by have := HJ5.out; first | omega | exact Nat.le_refl _⟩, ⟨by (with_reducible repeat (first | apply Kd.N_alloc | apply Kd.N_drewN | apply Kd.N_drew)); exact HO_3.out⟩, ⟨by (with_reducible repeat (first | apply Kd.N_alloc | apply Kd.N_drewN | apply Kd.N_drew)); exact HO_4.out⟩, ⟨by (with_reducible repeat (first | apply Kd.N_alloc | apply Kd.N_drewN | apply Kd.N_drew)); exact HO_5.out⟩, ⟨by repeat (first | (with_reducible first | exact HB.out | apply below_alloc | apply pw_below_drewN | apply below_drew1) | exact HB.out)⟩⟩
            · rw [if_neg c28] at H; have c28b0 : decide (1 ≤ (t419.length : Int)) = false := decide_eq_false c28
              have c28b1 : decide (1 ≤ t419.length) = false := decide_eq_false (by omega)
              clear c28
              (first | rw [c28b0] | (simp only [i64_w, i32_w]; rw [c28b0]) | skip)
              have H' := Aside0.mk H; clear H; obtain ⟨Ao30, co30, eo30⟩ := Kd.N_slice HO_5.out; subst eo30
              go_wp2
              go_meet
              case rel => exact ⟨_, (false), (by first | rfl | (simp; done) | (simp [*]; done)), H', ⟨by have := HJ5.out; first | omega | exact Nat.le_refl _⟩, ⟨by (with_reducible repeat (first | apply Kd.N_alloc | apply Kd.N_drewN | apply Kd.N_drew)); exact HO_3.out⟩, ⟨by (with_reducible repeat (first | apply Kd.N_alloc | apply Kd.N_drewN | apply Kd.N_drew)); exact HO_4.out⟩, ⟨by (with_reducible repeat (first | apply Kd.N_alloc | apply Kd.N_drewN | apply Kd.N_drew)); exact HO_5.out⟩, ⟨by repeat (first | (with_reducible first | exact HB.out | apply below_alloc | apply pw_below_drewN | apply below_drew1) | exact HB.out)⟩⟩
          case rest =>
            clear HC27; (try clear c1); (try clear c2); (try clear c2b0); (try clear c2b1); (try clear p2); (try clear c5); (try clear c13); (try clear c13b0); (try clear c13b1); (try clear c13b2); (try clear c16); (try clear c16b0); (try clear c16b1); (try clear c16b2); (try clear c17); (try clear c18); (try clear c19); (try clear c26); (try clear c28); (try clear c28b0); (try clear c28b1); (try clear p2); obtain ⟨kq, x7_26, rfl, HA, HJ26, HO_3, HO_4, HO_5, HB⟩ := hcut
            cases kq with
            | zero => exact absurd HA.out (by simp [laws_FnProgSame.j1])
            | succ kj26 =>
              have H := HA.out; clear HA; simp only [laws_FnProgSame.j1] at H; have H' := Aside0.mk H; clear H
              go_wp2
              go_loopg [7, 8] kj26 (fun kq v7 v8 w' => ∃ (x7_3 : Bool) (x8_3 : Int), v7 = .bool x7_3 ∧ v8 = .int .i64 x8_3 ∧ Aside0 (laws_FnProgSame.l0 kq t413 t416 t419 t422 x7_3 x8_3 = some r) ∧ Aside0 (kq ≤ kj26) ∧ Aside0 (Kd.N k49 49 w' w.heap.size (fun _ => True) (.slice Ao9 t413.length co9) t413) ∧ Aside0 (Kd.N k49 49 w' w.heap.size (fun _ => True) (.slice Ao10 t416.length co10) t416) ∧ Aside0 (Kd.N (Kd.slice 49 k49) 23 w' w.heap.size (fun _ => True) v420 t419) ∧ Aside0 (Below w.heap.size w w'))
              case atStart => exact ⟨(x7_26), (0), (by first | rfl | (simp; done) | (simp [*]; done)), (by first | rfl | (simp; done) | (simp [*]; done)), H', ⟨Nat.le_refl _⟩, ⟨by (with_reducible repeat (first | apply Kd.N_alloc | apply Kd.N_drewN | apply Kd.N_drew)); exact HO_3.out⟩, ⟨by (with_reducible repeat (first | apply Kd.N_alloc | apply Kd.N_drewN | apply Kd.N_drew)); exact HO_4.out⟩, ⟨by (with_reducible repeat (first | apply Kd.N_alloc | apply Kd.N_drewN | apply Kd.N_drew)); exact HO_5.out⟩, ⟨by repeat (first | (with_reducible first | exact HB.out | apply below_alloc | apply pw_below_drewN | apply below_drew1) | exact HB.out)⟩⟩
              case round =>
                clear H'; (try clear c1); (try clear c2); (try clear c2b0); (try clear c2b1); (try clear p2); (try clear c5); (try clear c13); (try clear c13b0); (try clear c13b1); (try clear c13b2); (try clear c16); (try clear c16b0); (try clear c16b1); (try clear c16b2); (try clear c17); (try clear c18); (try clear c19); (try clear c26); (try clear c28); (try clear c28b0); (try clear c28b1); (try clear p2); obtain ⟨x7_3, x8_3, rfl, rfl, HA, HK3, HO_3, HO_4, HO_5, HB⟩ := hrel
                cases gk with
                | zero => exact absurd HA.out (by simp [laws_FnProgSame.l0])
                | succ k3 =>
                  have H := HA.out; clear HA; simp only [laws_FnProgSame.l0] at H
                  by_cases c31 : x8_3 < (t419.length : Int)
                  · rw [if_pos c31] at H; have c31b0 : decide (x8_3 < (t419.length : Int)) = true := decide_eq_true c31; clear c31
                    by_cases c32 : x7_3 = true
                    · subst c32
                      have H1 : (if 0 ≤ x8_3 then ((impl_StmtsOk.f k3 (rd_L3 t419 x8_3)).bind fun t428 => (laws_FnProgSame.l0 k3 t413 t416 t419 t422 t428 (wrap64 (x8_3 + 1)))) else (none)) = some r := by rw [if_pos rfl] at H; exact H
                      clear H; have H := H1; clear H1
                      by_cases c33 : 0 ≤ x8_3
                      · rw [if_pos c33] at H; have c33b0 : decide (0 ≤ x8_3) = true := decide_eq_true c33; clear c33; replace H := Option.bind_eq_some_iff.mp H; obtain ⟨t428, A340, H⟩ := H; replace H : (laws_FnProgSame.l0 k3 t413 t416 t419 t422 t428 (wrap64 (x8_3 + 1))) = some r := H; have A34 := Aside0.mk A340; clear A340; have H' := Aside0.mk H; clear H; obtain ⟨Ao35, co35, eo35⟩ := Kd.N_slice HO_5.out; subst eo35
                        have p427 : 0 ≤ (x8_3 : Int) := of_decide_eq_true (by first | (with_reducible assumption) | assumption)
                        have q427 : x8_3 < (t419.length : Int) := of_decide_eq_true (by first | (with_reducible assumption) | assumption)
                        obtain ⟨ad427, A427_0, c427_0, e427, hx427_0, hl427_0, hi427_0⟩ := at_L3 (Kd.N_reads' HO_5.out).2.2 x8_3 p427 q427
                        cases e427
                        obtain ⟨ce427, hce427, hMe427, hcc427⟩ := Kd.N_get HO_5.out [] x8_3 p427 (by first | exact q427 | exact of_decide_eq_true (by first | (with_reducible assumption) | assumption) | (have e_ := (Kd.N_reads' HO_5.out).1; omega))
                        obtain ⟨ua427_0, uc427_0, rfl, ul427_0, ge427_0⟩ := Kd.FK_slice_open hMe427; have hv427_0 := hcc427 0 _ rfl
                        rw [Nat.add_zero, show ((Kd.slice 49 k49)).sz = 1 from rfl, Nat.mul_one] at hv427_0
                        replace hv427_0 := Option.some.inj (hv427_0.symm.trans hx427_0)
                        injection hv427_0 with hva_ hvn_ hvc_
                        rw [hva_] at ge427_0; rw [hvc_] at ul427_0
                        have HL427_0 := Aside0.mk (show Kd.V k49 49 _ w.heap.size _ _ (rd_L3 t419 x8_3) from Kd.V_mk ul427_0 ge427_0)
                        clear hva_ hvn_ hvc_ ge427_0 ul427_0; clear hcc427 hce427; have HR427_0 := Aside0.mk hi427_0; have HC427_0 := Aside0.mk hl427_0; clear hi427_0 hl427_0; replace p427 := eq_true p427; replace q427 := eq_true q427
                        go_wp2_with (first | (go_at_call 10; (with_reducible refine (impl_StmtsOk.calls k3 _ _ (rd_L3 t419 x8_3) t428 _ ?side1 ?side2 A34.out).mono ?_); (case side1 => repeat (first | exact (by repeat (first | (with_reducible exact HR427_0.out) | (with_reducible refine Kd.C_alloc ?_ _) | (with_reducible refine Kd.C_drewN ?_ _) | (with_reducible refine Kd.C_drew ?_) | exact HR427_0.out)) | (with_reducible refine Kd.C_alloc ?_ _) | (with_reducible refine Kd.C_drewN ?_ _) | (with_reducible refine Kd.C_drew ?_))); (case side2 => exact HC427_0.out); rintro e w36 ⟨rfl, hb⟩; have n0_ := Aside0.mk (Kd.N_below (q11_ HO_3) hb); have n1_ := Aside0.mk (Kd.N_below (q11_ HO_4) hb); have n2_ := Aside0.mk (Kd.N_below (q11_ HO_5) hb); have n3_ := Aside0.mk (Kd.V_below (q12_ HL427_0) hb); have n4_ := Aside0.mk (Kd.C_below (by repeat (first | (with_reducible exact HR427_0.out) | (with_reducible refine Kd.C_alloc ?_ _) | (with_reducible refine Kd.C_drewN ?_ _) | (with_reducible refine Kd.C_drew ?_) | exact HR427_0.out)) hb); have n5_ := Aside0.mk (below_step (q0_ HB) hb); clear HO_3; clear HO_4; clear HO_5; clear HL427_0; clear HR427_0; clear HB; have HO_3 := n0_; have HO_4 := n1_; have HO_5 := n2_; have HL427_0 := n3_; have HR427_0 := n4_; have HB := n5_; clear n0_ n1_ n2_ n3_ n4_ n5_; (try clear hb); (try clear hb2); (try clear hk); (try clear hi)))
                        go_roundg k3
                        case measure => have := HJ5.out; have := HJ26.out; have := HK3.out; omega
                        case rel => exact ⟨(t428), (wrap64 (x8_3 + 1)), (by first | rfl | (simp; done) | (simp [*]; done)), (by first | rfl | (simp; done) | (simp [*]; done)), H', ⟨by have := HJ5.out; have := HJ26.out; have := HK3.out; omega⟩, ⟨by (with_reducible repeat (first | apply Kd.N_alloc | apply Kd.N_drewN | apply Kd.N_drew)); exact HO_3.out⟩, ⟨by (with_reducible repeat (first | apply Kd.N_alloc | apply Kd.N_drewN | apply Kd.N_drew)); exact HO_4.out⟩, ⟨by (with_reducible repeat (first | apply Kd.N_alloc | apply Kd.N_drewN | apply Kd.N_drew)); exact HO_5.out⟩, ⟨by repeat (first | (with_reducible first | exact HB.out | apply below_alloc | apply pw_below_drewN | apply below_drew1) | exact HB.out)⟩⟩
                      · rw [if_neg c33] at H
                        exact absurd H (by simp)
                    · replace c32 := Bool.eq_false_iff.mpr c32; subst c32
                      have H1 : (laws_FnProgSame.l0 k3 t413 t416 t419 t422 false (wrap64 (x8_3 + 1))) = some r := by rw [if_neg (show ¬ (false = true) by decide)] at H; exact H
                      clear H; have H := H1; clear H1; have H' := Aside0.mk H; clear H; obtain ⟨Ao37, co37, eo37⟩ := Kd.N_slice HO_5.out; subst eo37
                      go_wp2
                      go_roundg k3
                      case measure => have := HJ5.out; have := HJ26.out; have := HK3.out; omega
                      case rel => exact ⟨(false), (wrap64 (x8_3 + 1)), (by first | rfl | (simp; done) | (simp [*]; done)), (by first | rfl | (simp; done) | (simp [*]; done)), H', ⟨by have := HJ5.out; have := HJ26.out; have := HK3.out; omega⟩, ⟨by (with_reducible repeat (first | apply Kd.N_alloc | apply Kd.N_drewN | apply Kd.N_drew)); exact HO_3.out⟩, ⟨by (with_reducible repeat (first | apply Kd.N_alloc | apply Kd.N_drewN | apply Kd.N_drew)); exact HO_4.out⟩, ⟨by (with_reducible repeat (first | apply Kd.N_alloc | apply Kd.N_drewN | apply Kd.N_drew)); exact HO_5.out⟩, ⟨by repeat (first | (with_reducible first | exact HB.out | apply below_alloc | apply pw_below_drewN | apply below_drew1) | exact HB.out)⟩⟩
                  · rw [if_neg c31] at H; have c31b0 : decide (x8_3 < (t419.length : Int)) = false := decide_eq_false c31; clear c31; replace H := Option.bind_eq_some_iff.mp H; obtain ⟨t429, A380, H⟩ := H; replace H : (if (x7_3 != t429) = true then (some false) else ((impl_StmtsOk.f k3 t413).bind fun t430 => (if t430 = true then ((impl_StmtsOk.f k3 t416).bind fun t431 => (if t431 = true then ((impl_StmtsText.f k3 t413).bind fun t432 => ((impl_StmtsText.f k3 t416).bind fun t433 => (some (t422 == (t432.toList == t433.toList))))) else (some (t422 == false)))) else (some (t422 == false))))) = some r := H; have A38 := Aside0.mk A380; clear A380
                    by_cases c39 : (x7_3 != t429) = true
                    · rw [if_pos c39] at H; have c39b0 : (x7_3 != t429) = true := c39
                      (try (have c39b1 : decide (x7_3 = t429) = false := by simpa using c39))
                      (try (have c39b2 : (x7_3 == t429) = false := by simpa using c39))
                      (try (have c39b3 : ¬ (x7_3 = t429) := by simpa using c39))
                      clear c39; obtain rfl := Option.some.inj H; obtain ⟨Ao40, co40, eo40⟩ := Kd.N_slice HO_5.out; subst eo40
                      go_wp2_with (first | ((with_reducible refine gate_callee (f := 20) rfl ?_); refine goesM_ (some 65) Tryd.func20 #[.slice Ao40 t419.length co40] ?_; (with_reducible refine (impl_ProgOk.calls k3 _ _ t419 t429 _ ?side1 ?side2 A38.out).mono ?_); (case side1 => repeat (first | exact (Kd.N_reads' HO_5.out).2.2 | (with_reducible refine Kd.C_alloc ?_ _) | (with_reducible refine Kd.C_drewN ?_ _) | (with_reducible refine Kd.C_drew ?_))); (case side2 => exact (Kd.N_reads' HO_5.out).2.1); rintro e w41 ⟨rfl, hb⟩; refine ⟨_, rfl, ?_⟩; have n0_ := Aside0.mk (Kd.N_below (q11_ HO_3) hb); have n1_ := Aside0.mk (Kd.N_below (q11_ HO_4) hb); have n2_ := Aside0.mk (Kd.N_below (q11_ HO_5) hb); have n3_ := Aside0.mk (below_step (q0_ HB) hb); clear HO_3; clear HO_4; clear HO_5; clear HB; have HO_3 := n0_; have HO_4 := n1_; have HO_5 := n2_; have HB := n3_; clear n0_ n1_ n2_ n3_; (try clear hb); (try clear hb2); (try clear hk); (try clear hi)))
                      go_ret
                      exact ⟨by first | rfl | (simp [errW_none, errW_some] <;> rfl) | (simp [*, errW_none, errW_some] <;> rfl), by repeat (first | (with_reducible first | exact HB.out | apply below_alloc | apply pw_below_drewN | apply below_drew1) | exact HB.out)⟩
                    · rw [if_neg c39] at H
                      have c39b0 : (x7_3 != t429) = false := by simpa using c39
                      (try (have c39b1 : decide (x7_3 = t429) = true := by simpa using c39))
                      (try (have c39b2 : (x7_3 == t429) = true := by simpa using c39))
                      clear c39; replace H := Option.bind_eq_some_iff.mp H; obtain ⟨t430, A420, H⟩ := H; replace H : (if t430 = true then ((impl_StmtsOk.f k3 t416).bind fun t431 => (if t431 = true then ((impl_StmtsText.f k3 t413).bind fun t432 => ((impl_StmtsText.f k3 t416).bind fun t433 => (some (t422 == (t432.toList == t433.toList))))) else (some (t422 == false)))) else (some (t422 == false))) = some r := H; have A42 := Aside0.mk A420; clear A420
                      by_cases c43 : t430 = true
                      · subst c43
                        have H1 : ((impl_StmtsOk.f k3 t416).bind fun t431 => (if t431 = true then ((impl_StmtsText.f k3 t413).bind fun t432 => ((impl_StmtsText.f k3 t416).bind fun t433 => (some (t422 == (t432.toList == t433.toList))))) else (some (t422 == false)))) = some r := by rw [if_pos rfl] at H; exact H
                        clear H; have H := H1; clear H1; replace H := Option.bind_eq_some_iff.mp H; obtain ⟨t431, A440, H⟩ := H; replace H : (if t431 = true then ((impl_StmtsText.f k3 t413).bind fun t432 => ((impl_StmtsText.f k3 t416).bind fun t433 => (some (t422 == (t432.toList == t433.toList))))) else (some (t422 == false))) = some r := H; have A44 := Aside0.mk A440; clear A440
                        by_cases c45 : t431 = true
                        · subst c45
                          have H1 : ((impl_StmtsText.f k3 t413).bind fun t432 => ((impl_StmtsText.f k3 t416).bind fun t433 => (some (t422 == (t432.toList == t433.toList))))) = some r := by rw [if_pos rfl] at H; exact H
                          clear H; have H := H1; clear H1; replace H := Option.bind_eq_some_iff.mp H; obtain ⟨t432, A460, H⟩ := H; replace H : ((impl_StmtsText.f k3 t416).bind fun t433 => (some (t422 == (t432.toList == t433.toList)))) = some r := H; have A46 := Aside0.mk A460; clear A460; replace H := Option.bind_eq_some_iff.mp H; obtain ⟨t433, A470, H⟩ := H; replace H : (some (t422 == (t432.toList == t433.toList))) = some r := H; have A47 := Aside0.mk A470; clear A470; obtain rfl := Option.some.inj H; obtain ⟨Ao48, co48, eo48⟩ := Kd.N_slice HO_5.out; subst eo48
                          go_wp2_with (first | ((with_reducible refine gate_callee (f := 20) rfl ?_); refine goesM_ (some 65) Tryd.func20 #[.slice Ao48 t419.length co48] ?_; (with_reducible refine (impl_ProgOk.calls k3 _ _ t419 t429 _ ?side1 ?side2 A38.out).mono ?_); (case side1 => repeat (first | exact (Kd.N_reads' HO_5.out).2.2 | (with_reducible refine Kd.C_alloc ?_ _) | (with_reducible refine Kd.C_drewN ?_ _) | (with_reducible refine Kd.C_drew ?_))); (case side2 => exact (Kd.N_reads' HO_5.out).2.1); rintro e w49 ⟨rfl, hb⟩; refine ⟨_, rfl, ?_⟩; have n0_ := Aside0.mk (Kd.N_below (q11_ HO_3) hb); have n1_ := Aside0.mk (Kd.N_below (q11_ HO_4) hb); have n2_ := Aside0.mk (Kd.N_below (q11_ HO_5) hb); have n3_ := Aside0.mk (below_step (q0_ HB) hb); clear HO_3; clear HO_4; clear HO_5; clear HB; have HO_3 := n0_; have HO_4 := n1_; have HO_5 := n2_; have HB := n3_; clear n0_ n1_ n2_ n3_; (try clear hb); (try clear hb2); (try clear hk); (try clear hi)) | ((with_reducible refine gate_callee (f := 10) rfl ?_); refine goesM_ (some 69) Tryd.func10 #[.slice Ao9 t413.length co9] ?_; (with_reducible refine (impl_StmtsOk.calls k3 _ _ t413 true _ ?side1 ?side2 A42.out).mono ?_); (case side1 => repeat (first | exact (Kd.N_reads' HO_3.out).2.2 | (with_reducible refine Kd.C_alloc ?_ _) | (with_reducible refine Kd.C_drewN ?_ _) | (with_reducible refine Kd.C_drew ?_))); (case side2 => exact (Kd.N_reads' HO_3.out).2.1); rintro e w50 ⟨rfl, hb⟩; refine ⟨_, rfl, ?_⟩; have n0_ := Aside0.mk (Kd.N_below (q11_ HO_3) hb); have n1_ := Aside0.mk (Kd.N_below (q11_ HO_4) hb); have n2_ := Aside0.mk (Kd.N_below (q11_ HO_5) hb); have n3_ := Aside0.mk (below_step (q0_ HB) hb); clear HO_3; clear HO_4; clear HO_5; clear HB; have HO_3 := n0_; have HO_4 := n1_; have HO_5 := n2_; have HB := n3_; clear n0_ n1_ n2_ n3_; (try clear hb); (try clear hb2); (try clear hk); (try clear hi)) | (go_at_call 10; (with_reducible refine (impl_StmtsOk.calls k3 _ _ t416 true _ ?side1 ?side2 A44.out).mono ?_); (case side1 => repeat (first | exact (Kd.N_reads' HO_4.out).2.2 | (with_reducible refine Kd.C_alloc ?_ _) | (with_reducible refine Kd.C_drewN ?_ _) | (with_reducible refine Kd.C_drew ?_))); (case side2 => exact (Kd.N_reads' HO_4.out).2.1); rintro e w51 ⟨rfl, hb⟩; have n0_ := Aside0.mk (Kd.N_below (q11_ HO_3) hb); have n1_ := Aside0.mk (Kd.N_below (q11_ HO_4) hb); have n2_ := Aside0.mk (Kd.N_below (q11_ HO_5) hb); have n3_ := Aside0.mk (below_step (q0_ HB) hb); clear HO_3; clear HO_4; clear HO_5; clear HB; have HO_3 := n0_; have HO_4 := n1_; have HO_5 := n2_; have HB := n3_; clear n0_ n1_ n2_ n3_; (try clear hb); (try clear hb2); (try clear hk); (try clear hi)) | (go_at_call 11; (with_reducible refine (impl_StmtsText.callsT k3 _ _ t413 t432 _ ?sideT ?side1 ?side2 A46.out).mono ?_); (case sideT => exact HT_.out.below (by repeat (first | exact HB.out | (with_reducible apply below_alloc) | (with_reducible apply pw_below_drewN) | (with_reducible apply below_drew1)))); (case side1 => repeat (first | exact (Kd.N_reads' HO_3.out).2.2 | (with_reducible refine Kd.C_alloc ?_ _) | (with_reducible refine Kd.C_drewN ?_ _) | (with_reducible refine Kd.C_drew ?_))); (case side2 => exact (Kd.N_reads' HO_3.out).2.1); rintro e w52 ⟨rfl, hb⟩; have n0_ := Aside0.mk (Kd.N_below (q11_ HO_3) hb); have n1_ := Aside0.mk (Kd.N_below (q11_ HO_4) hb); have n2_ := Aside0.mk (Kd.N_below (q11_ HO_5) hb); have n3_ := Aside0.mk (below_step (q0_ HB) hb); clear HO_3; clear HO_4; clear HO_5; clear HB; have HO_3 := n0_; have HO_4 := n1_; have HO_5 := n2_; have HB := n3_; clear n0_ n1_ n2_ n3_; (try clear hb); (try clear hb2); (try clear hk); (try clear hi)) | (go_at_call 11; (with_reducible refine (impl_StmtsText.callsT k3 _ _ t416 t433 _ ?sideT ?side1 ?side2 A47.out).mono ?_); (case sideT => exact HT_.out.below (by repeat (first | exact HB.out | (with_reducible apply below_alloc) | (with_reducible apply pw_below_drewN) | (with_reducible apply below_drew1)))); (case side1 => repeat (first | exact (Kd.N_reads' HO_4.out).2.2 | (with_reducible refine Kd.C_alloc ?_ _) | (with_reducible refine Kd.C_drewN ?_ _) | (with_reducible refine Kd.C_drew ?_))); (case side2 => exact (Kd.N_reads' HO_4.out).2.1); rintro e w53 ⟨rfl, hb⟩; have n0_ := Aside0.mk (Kd.N_below (q11_ HO_3) hb); have n1_ := Aside0.mk (Kd.N_below (q11_ HO_4) hb); have n2_ := Aside0.mk (Kd.N_below (q11_ HO_5) hb); have n3_ := Aside0.mk (below_step (q0_ HB) hb); clear HO_3; clear HO_4; clear HO_5; clear HB; have HO_3 := n0_; have HO_4 := n1_; have HO_5 := n2_; have HB := n3_; clear n0_ n1_ n2_ n3_; (try clear hb); (try clear hb2); (try clear hk); (try clear hi)))
                          go_ret
                          exact ⟨by first | rfl | (simp [errW_none, errW_some] <;> rfl) | (simp [*, errW_none, errW_some] <;> rfl), by repeat (first | (with_reducible first | exact HB.out | apply below_alloc | apply pw_below_drewN | apply below_drew1) | exact HB.out)⟩
                        · replace c45 := Bool.eq_false_iff.mpr c45; subst c45
                          have H1 : (some (t422 == false)) = some r := by rw [if_neg (show ¬ (false = true) by decide)] at H; exact H
                          clear H; have H := H1; clear H1; obtain rfl := Option.some.inj H; obtain ⟨Ao54, co54, eo54⟩ := Kd.N_slice HO_5.out; subst eo54
                          go_wp2_with (first | ((with_reducible refine gate_callee (f := 20) rfl ?_); refine goesM_ (some 65) Tryd.func20 #[.slice Ao54 t419.length co54] ?_; (with_reducible refine (impl_ProgOk.calls k3 _ _ t419 t429 _ ?side1 ?side2 A38.out).mono ?_); (case side1 => repeat (first | exact (Kd.N_reads' HO_5.out).2.2 | (with_reducible refine Kd.C_alloc ?_ _) | (with_reducible refine Kd.C_drewN ?_ _) | (with_reducible refine Kd.C_drew ?_))); (case side2 => exact (Kd.N_reads' HO_5.out).2.1); rintro e w55 ⟨rfl, hb⟩; refine ⟨_, rfl, ?_⟩; have n0_ := Aside0.mk (Kd.N_below (q11_ HO_3) hb); have n1_ := Aside0.mk (Kd.N_below (q11_ HO_4) hb); have n2_ := Aside0.mk (Kd.N_below (q11_ HO_5) hb); have n3_ := Aside0.mk (below_step (q0_ HB) hb); clear HO_3; clear HO_4; clear HO_5; clear HB; have HO_3 := n0_; have HO_4 := n1_; have HO_5 := n2_; have HB := n3_; clear n0_ n1_ n2_ n3_; (try clear hb); (try clear hb2); (try clear hk); (try clear hi)) | ((with_reducible refine gate_callee (f := 10) rfl ?_); refine goesM_ (some 69) Tryd.func10 #[.slice Ao9 t413.length co9] ?_; (with_reducible refine (impl_StmtsOk.calls k3 _ _ t413 true _ ?side1 ?side2 A42.out).mono ?_); (case side1 => repeat (first | exact (Kd.N_reads' HO_3.out).2.2 | (with_reducible refine Kd.C_alloc ?_ _) | (with_reducible refine Kd.C_drewN ?_ _) | (with_reducible refine Kd.C_drew ?_))); (case side2 => exact (Kd.N_reads' HO_3.out).2.1); rintro e w56 ⟨rfl, hb⟩; refine ⟨_, rfl, ?_⟩; have n0_ := Aside0.mk (Kd.N_below (q11_ HO_3) hb); have n1_ := Aside0.mk (Kd.N_below (q11_ HO_4) hb); have n2_ := Aside0.mk (Kd.N_below (q11_ HO_5) hb); have n3_ := Aside0.mk (below_step (q0_ HB) hb); clear HO_3; clear HO_4; clear HO_5; clear HB; have HO_3 := n0_; have HO_4 := n1_; have HO_5 := n2_; have HB := n3_; clear n0_ n1_ n2_ n3_; (try clear hb); (try clear hb2); (try clear hk); (try clear hi)) | (go_at_call 10; (with_reducible refine (impl_StmtsOk.calls k3 _ _ t416 false _ ?side1 ?side2 A44.out).mono ?_); (case side1 => repeat (first | exact (Kd.N_reads' HO_4.out).2.2 | (with_reducible refine Kd.C_alloc ?_ _) | (with_reducible refine Kd.C_drewN ?_ _) | (with_reducible refine Kd.C_drew ?_))); (case side2 => exact (Kd.N_reads' HO_4.out).2.1); rintro e w57 ⟨rfl, hb⟩; have n0_ := Aside0.mk (Kd.N_below (q11_ HO_3) hb); have n1_ := Aside0.mk (Kd.N_below (q11_ HO_4) hb); have n2_ := Aside0.mk (Kd.N_below (q11_ HO_5) hb); have n3_ := Aside0.mk (below_step (q0_ HB) hb); clear HO_3; clear HO_4; clear HO_5; clear HB; have HO_3 := n0_; have HO_4 := n1_; have HO_5 := n2_; have HB := n3_; clear n0_ n1_ n2_ n3_; (try clear hb); (try clear hb2); (try clear hk); (try clear hi)))
                          go_ret
                          exact ⟨by first | rfl | (simp [errW_none, errW_some] <;> rfl) | (simp [*, errW_none, errW_some] <;> rfl), by repeat (first | (with_reducible first | exact HB.out | apply below_alloc | apply pw_below_drewN | apply below_drew1) | exact HB.out)⟩
                      · replace c43 := Bool.eq_false_iff.mpr c43; subst c43
                        have H1 : (some (t422 == false)) = some r := by rw [if_neg (show ¬ (false = true) by decide)] at H; exact H
                        clear H; have H := H1; clear H1; obtain rfl := Option.some.inj H; obtain ⟨Ao58, co58, eo58⟩ := Kd.N_slice HO_5.out; subst eo58
                        go_wp2_with (first | ((with_reducible refine gate_callee (f := 20) rfl ?_); refine goesM_ (some 65) Tryd.func20 #[.slice Ao58 t419.length co58] ?_; (with_reducible refine (impl_ProgOk.calls k3 _ _ t419 t429 _ ?side1 ?side2 A38.out).mono ?_); (case side1 => repeat (first | exact (Kd.N_reads' HO_5.out).2.2 | (with_reducible refine Kd.C_alloc ?_ _) | (with_reducible refine Kd.C_drewN ?_ _) | (with_reducible refine Kd.C_drew ?_))); (case side2 => exact (Kd.N_reads' HO_5.out).2.1); rintro e w59 ⟨rfl, hb⟩; refine ⟨_, rfl, ?_⟩; have n0_ := Aside0.mk (Kd.N_below (q11_ HO_3) hb); have n1_ := Aside0.mk (Kd.N_below (q11_ HO_4) hb); have n2_ := Aside0.mk (Kd.N_below (q11_ HO_5) hb); have n3_ := Aside0.mk (below_step (q0_ HB) hb); clear HO_3; clear HO_4; clear HO_5; clear HB; have HO_3 := n0_; have HO_4 := n1_; have HO_5 := n2_; have HB := n3_; clear n0_ n1_ n2_ n3_; (try clear hb); (try clear hb2); (try clear hk); (try clear hi)) | ((with_reducible refine gate_callee (f := 10) rfl ?_); refine goesM_ (some 69) Tryd.func10 #[.slice Ao9 t413.length co9] ?_; (with_reducible refine (impl_StmtsOk.calls k3 _ _ t413 false _ ?side1 ?side2 A42.out).mono ?_); (case side1 => repeat (first | exact (Kd.N_reads' HO_3.out).2.2 | (with_reducible refine Kd.C_alloc ?_ _) | (with_reducible refine Kd.C_drewN ?_ _) | (with_reducible refine Kd.C_drew ?_))); (case side2 => exact (Kd.N_reads' HO_3.out).2.1); rintro e w60 ⟨rfl, hb⟩; refine ⟨_, rfl, ?_⟩; have n0_ := Aside0.mk (Kd.N_below (q11_ HO_3) hb); have n1_ := Aside0.mk (Kd.N_below (q11_ HO_4) hb); have n2_ := Aside0.mk (Kd.N_below (q11_ HO_5) hb); have n3_ := Aside0.mk (below_step (q0_ HB) hb); clear HO_3; clear HO_4; clear HO_5; clear HB; have HO_3 := n0_; have HO_4 := n1_; have HO_5 := n2_; have HB := n3_; clear n0_ n1_ n2_ n3_; (try clear hb); (try clear hb2); (try clear hk); (try clear hi)))
                        go_ret
                        exact ⟨by first | rfl | (simp [errW_none, errW_some] <;> rfl) | (simp [*, errW_none, errW_some] <;> rfl), by repeat (first | (with_reducible first | exact HB.out | apply below_alloc | apply pw_below_drewN | apply below_drew1) | exact HB.out)⟩
def laws_FnProgSame.Pure : Prop := ∀ (l0 : List Int), l0.length ≤ maxLen → l0.length * 1 ≤ 140737488351232 → (∀ x ∈ l0, (Lit.int .u8 x).wf = true) → ∃ k, laws_FnProgSame.f k l0 = some true
theorem laws_FnProgSame.walk (P : laws_FnProgSame.Pure) (a0 : Option Addr) (len0 cap0 : Nat) (z0 : List Int) (w : World) (hT_ : Tab w) (w0 : (a0 = none ∧ len0 = 0 ∧ cap0 = 0 ∧ z0 = []) ∨ ∃ x, a0 = some x ∧ len0 ≤ cap0 ∧ cap0 ≤ maxLen ∧ z0.length = cap0 ∧ (∀ i, i < z0.length → w.cell? (x.add i) = some (.int .u8 (z0.getD i 0))) ∧ ∀ n ∈ z0, (Lit.int .u8 n).wf = true) (y0 : len0 * 1 ≤ 140737488351232) :
    Calls Tryd.prog 5 #[.slice a0 len0 cap0] w fun e w' => e = .returned (.bool true) ∧ Below w.heap.size w w' := by
  obtain ⟨l0, rfl, hr0, hm0, hw0, hc0⟩ := ReadsInt.ofRowC w0; obtain ⟨k, h⟩ := P l0 hm0 y0 hw0
  refine (laws_FnProgSame.calls k _ _ l0 true w hT_ (Kd.C_of_reads (d := (0 : Int)) (h1 := fun _ => rfl) hr0) hc0 h).mono ?_
  rintro e w' ⟨rfl, hd⟩
  exact ⟨rfl, hd⟩
end Go.Proofs.YtnegnanlbdncmaaDoor.P

namespace Go.Proofs.YtnegnanlbdncmaaDoor.P
open Go.RowKit Go.Proofs.YtnegnanlbdncmaaDoorW.PrintWords Go.Proofs.YtnegnanlbdncmaaDoorW.PrintLast Go.Proofs.YtnegnanlbdncmaaDoorW.PrintMore
set_option linter.unusedVariables false
set_option linter.unusedSimpArgs false
theorem cnt_cons (d : Nat) (x : S49) (t : List S49) : cntL (d + 1) (x :: t) = (1 + cntL d x.f4 + cntL d x.f5) + cntL (d + 1) t := by
  show (List.map _ (x :: t)).sum = _
  rw [List.map_cons, List.sum_cons]
  rfl
theorem cnt_len (d : Nat) : ∀ l : List S49, l.length ≤ cntL (d + 1) l
  | [] => Nat.zero_le _
  | x :: t => by
    have := cnt_len d t
    rw [cnt_cons, List.length_cons]
    omega
def brT (T : List S49 → List UInt8) (l : List S49) : List UInt8 := if l.length = 0 then [91, 32, 93] else [91, 32] ++ T l ++ [32, 93]
def optT (c : Bool) (T : List S49 → List UInt8) (l : List S49) : List (List UInt8) := if c = true then [brT T l] else []
def stT (T : List S49 → List UInt8) (x : S49) : List UInt8 := Lib.join (wHeads x.f0 x.f1 x.f2 x.f3 ++ optT (fmX x.f0) T x.f4 ++ optT (fmY x.f0) T x.f5) [32]
def txT : Nat → List S49 → List UInt8
  | 0, _ => []
  | d + 1, l => Lib.join (l.map (stT (txT d))) [32]
def okD (d : Nat) (l : List S49) : Prop := ∀ x ∈ l, ∃ m, okS d x m = true
theorem okD_kids {d : Nat} {l : List S49} (h : okD (d + 1) l) {x : S49} (hx : x ∈ l) : okD d x.f4 ∧ okD d x.f5 := by
  obtain ⟨m, hm⟩ := h x hx
  obtain ⟨m', h4, h5⟩ := okS_kids2 hm
  exact ⟨fun y hy => ⟨m', h4 y hy⟩, fun y hy => ⟨m', h5 y hy⟩⟩
theorem okN_of {d : Nat} {x : S49} {m : Int} (h : okS (d + 1) x m = true) : okN x.f0 x.f1 x.f2 x.f3 := by
  unfold okS at h
  unfold okN i64
  by_cases c6 : x.f0 = 6
  · rw [if_pos c6] at h
    simp only [inR, Bool.and_eq_true, decide_eq_true_eq] at h
    omega
  rw [if_neg c6] at h
  by_cases c5 : x.f5.length = 0
  · rw [if_pos c5] at h
    by_cases c7 : x.f0 = 7
    · rw [if_pos c7] at h
      simp only [inR, Bool.and_eq_true, decide_eq_true_eq] at h
      omega
    rw [if_neg c7] at h
    by_cases c8 : x.f0 = 8
    · rw [if_pos c8] at h
      simp only [inR, Bool.and_eq_true, decide_eq_true_eq] at h
      omega
    rw [if_neg c8] at h
    rw [Bool.and_eq_true] at h
    have h2 := h.2
    unfold leafOk at h2
    repeat' split at h2
    all_goals first
      | (simp only [inR, numR, Bool.and_eq_true, decide_eq_true_eq] at h2; omega)
      | cases h2
  · rw [if_neg c5] at h
    cases h
theorem fmS_len (n : Int) : (fmS n).data.toList.length ≤ 6 := by
  unfold fmS
  repeat' split
  all_goals decide
theorem opW_len (n : Int) : (opW n).length ≤ 4 := by
  unfold opW
  repeat' split
  all_goals decide
theorem join_len : ∀ ws : List (List UInt8), (Lib.join ws [32]).length ≤ (ws.map fun w => w.length + 1).sum
  | [] => by simp [Lib.join_nil]
  | [x] => by simp [Lib.join_one]
  | x :: y :: t => by
    have := join_len (y :: t)
    rw [Lib.join_cons] at this ⊢
    simp only [Lib.joinTail, List.map_cons, List.flatten_cons, List.length_append, List.sum_cons, List.length_cons, List.length_nil] at this ⊢
    omega
theorem join_append (a b : List (List UInt8)) (ha : a ≠ []) (hb : b ≠ []) : Lib.join (a ++ b) [32] = Lib.join a [32] ++ [32] ++ Lib.join b [32] := by
  obtain ⟨x, s, rfl⟩ := List.exists_cons_of_ne_nil ha
  obtain ⟨y, t, rfl⟩ := List.exists_cons_of_ne_nil hb
  rw [List.cons_append, Lib.join_cons, Lib.join_cons, Lib.join_cons]
  simp [Lib.joinTail, List.append_assoc]
theorem brT_len (T : List S49 → List UInt8) (l : List S49) : (brT T l).length ≤ 4 + (T l).length := by
  unfold brT
  split
  · simp
    omega
  · simp
    omega
theorem optT_len (c : Bool) (T : List S49 → List UInt8) (l : List S49) : ((optT c T l).map fun w => w.length + 1).sum ≤ 5 + (T l).length := by
  unfold optT
  split
  · have := brT_len T l
    simp
    omega
  · simp
theorem wHeads_len {a0 a1 a2 a3 : Int} (h : okN a0 a1 a2 a3) : ((wHeads a0 a1 a2 a3).map fun w => w.length + 1).sum ≤ 73 := by
  have i1 := Lib.itoa_length_le a1 h.1.1 h.1.2
  have i2 := Lib.itoa_length_le a2 h.2.1.1 h.2.1.2
  have i3 := Lib.itoa_length_le a3 h.2.2.1.1 h.2.2.1.2
  have i0 : (head0 a0 a3).length ≤ 6 := by
    unfold head0
    split
    · have := opW_len a3
      omega
    · exact fmS_len a0
  unfold wHeads
  simp only [List.map_append, List.sum_append, List.map_cons, List.map_nil, List.sum_cons, List.sum_nil]
  have e : ∀ (c : Prop) [Decidable c] (n : Int), ((if c then [Lib.itoa n] else []).map fun w : List UInt8 => w.length + 1).sum ≤ (Lib.itoa n).length + 1 := fun c _ n => by
    split <;> simp
  have e1 := e (0 < fmA a0) a1
  have e2 := e (0 < fmB a0) a2
  have e3 := e (a0 = 1) a3
  omega
theorem stT_len {T : List S49 → List UInt8} {x : S49} (h : okN x.f0 x.f1 x.f2 x.f3) : (stT T x).length ≤ 83 + (T x.f4).length + (T x.f5).length := by
  unfold stT
  have h1 := join_len (wHeads x.f0 x.f1 x.f2 x.f3 ++ optT (fmX x.f0) T x.f4 ++ optT (fmY x.f0) T x.f5)
  rw [List.map_append, List.map_append, List.sum_append, List.sum_append] at h1
  have h2 := wHeads_len h
  have h3 := optT_len (fmX x.f0) T x.f4
  have h4 := optT_len (fmY x.f0) T x.f5
  omega
theorem txT_len : ∀ (d : Nat) (l : List S49), okD d l → (txT d l).length ≤ 120 * cntL d l
  | 0, _, _ => Nat.zero_le _
  | d + 1, l, h => by
    refine Nat.le_trans (join_len _) ?_
    rw [List.map_map]
    have key : ∀ t : List S49, (∀ x ∈ t, x ∈ l) → (t.map ((fun w : List UInt8 => w.length + 1) ∘ stT (txT d))).sum ≤ 120 * cntL (d + 1) t := by
      intro t
      induction t with
      | nil => intro _; simp
      | cons x t ih =>
        intro hm
        have i := ih fun y hy => hm y (List.mem_cons_of_mem _ hy)
        have hx := hm x (List.mem_cons_self ..)
        obtain ⟨m, hx1⟩ := h x hx
        have s := stT_len (T := txT d) (okN_of hx1)
        have k4 := txT_len d x.f4 (okD_kids h hx).1
        have k5 := txT_len d x.f5 (okD_kids h hx).2
        rw [List.map_cons, List.sum_cons, cnt_cons]
        show (stT (txT d) x).length + 1 + _ ≤ _
        omega
    exact key l fun _ h => h
theorem limT_ok {l : List UInt8} (h : l.length ≤ 1099511627776) : limT l = some l := if_pos h
theorem brF_ev {d : Nat} {l : List S49} (h : Ev (fun k => txF k l) (txT d l)) (hb : (txT d l).length ≤ 1000000000000) : Ev (fun k => brF (txF k) l) (brT (txT d) l) := by
  unfold brF brT
  by_cases c : l.length = 0
  · simp only [c, if_true]
    exact Evs.some_ _
  · simp only [c, if_false]
    exact Evs.bind h (Evs.const (limT_ok (by simp; omega)))
theorem optF_ev {d : Nat} {l : List S49} (c : Bool) (h : Ev (fun k => txF k l) (txT d l)) (hb : (txT d l).length ≤ 1000000000000) : Ev (fun k => optF c (txF k) l) (optT c (txT d) l) := by
  unfold optF optT
  cases c with
  | false => exact Evs.some_ _
  | true => exact Evs.bind (brF_ev h hb) (Evs.some_ _)
theorem tx_ev : ∀ (d : Nat) (l : List S49), okD d l → cntL d l ≤ 1000000 → Ev (fun k => txF k l) (txT d l)
  | 0, l, h, _ => by
    cases l with
    | nil => exact Evs.succ (fun k => by simp only [txF]; rfl) (Evs.const rfl)
    | cons x t =>
      obtain ⟨m, hm⟩ := h x (List.mem_cons_self ..)
      cases hm
  | d + 1, l, h, hc => by
    have hl := cnt_len d l
    have hb := txT_len (d + 1) l h
    refine Evs.succ (fun k => by simp only [txF]; rfl) ?_
    unfold joF
    have key : ∀ t : List S49, (∀ x ∈ t, x ∈ l) → cntL (d + 1) t ≤ 1000000 → Ev (fun k => wsF (txF k) t) (t.map (stT (txT d))) := by
      intro t
      induction t with
      | nil => intro _ _; exact Evs.some_ _
      | cons x t ih =>
        intro hm hct
        rw [cnt_cons] at hct
        have hx := hm x (List.mem_cons_self ..)
        obtain ⟨m, hx1⟩ := h x hx
        have hk := okD_kids h hx
        have q4 := tx_ev d x.f4 hk.1 (by omega)
        have q5 := tx_ev d x.f5 hk.2 (by omega)
        have k4 := txT_len d x.f4 hk.1
        have k5 := txT_len d x.f5 hk.2
        have s := stT_len (T := txT d) (okN_of hx1)
        have st : Ev (fun k => stF (txF k) x) (stT (txT d) x) := by
          unfold stF stB
          exact Evs.ite_pos (okN_of hx1) (Evs.bind (optF_ev _ q4 (by omega)) (Evs.bind (optF_ev _ q5 (by omega)) (Evs.const (limT_ok (by show (stT (txT d) x).length ≤ _; omega)))))
        show Ev (fun k => (stF (txF k) x).bind fun s => (wsF (txF k) t).bind fun r => some (s :: r)) _
        exact Evs.bind st (Evs.bind (ih (fun y hy => hm y (List.mem_cons_of_mem _ hy)) (by omega)) (Evs.some_ _))
    exact Evs.ite_pos (by omega) (Evs.bind (key l (fun _ h => h) hc) (Evs.const (limT_ok (by show (txT (d + 1) l).length ≤ _; omega))))
theorem okD_ok {l : List S49} (h : okLst l = true) : okD 3 l := fun x hx => by
  have := okLst_list h
  unfold okList at this
  rw [List.all_eq_true] at this
  exact ⟨_, this x hx⟩
def txtV (l : List S49) : List UInt8 := if okLst l = true then (if l.length = 0 then [45] else txT 3 l) else []
theorem implText {l : List S49} (hc : okLst l = true → cntL 3 l ≤ 1000000) : Ev (fun k => impl_StmtsText.f k l) ⟨(txtV l).toArray⟩ := by
  unfold impl_StmtsText.f txtV
  refine Evs.bind (implOk l) ?_
  cases h : okLst l with
  | false => exact Evs.ite_neg (by simp) (Evs.some_ _)
  | true =>
    refine Evs.ite_pos rfl ?_
    by_cases c : l.length = 0
    · simp only [c, if_true]
      exact Evs.some_ _
    · simp only [c, if_false]
      exact Evs.bind (tx_ev 3 l (okD_ok h) (hc h)) (Evs.some_ _)
theorem digit_inj {a b : Nat} (ha : a < 10) (hb : b < 10) (h : UInt8.ofNat (48 + a) = UInt8.ofNat (48 + b)) : a = b := by
  have := congrArg UInt8.toNat h
  rw [UInt8.toNat_ofNat', UInt8.toNat_ofNat'] at this
  omega
theorem dec_ne (u : Nat) : Lib.decDigits u ≠ [] := by
  unfold Lib.decDigits
  split <;> simp
theorem dec_big {u : Nat} (h : ¬ u < 10) : Lib.decDigits u = Lib.decDigits (u / 10) ++ [UInt8.ofNat (48 + u % 10)] := by
  conv => lhs; unfold Lib.decDigits
  rw [dif_neg h]
theorem dec_small {u : Nat} (h : u < 10) : Lib.decDigits u = [UInt8.ofNat (48 + u)] := by
  unfold Lib.decDigits
  rw [dif_pos h]
theorem dec_inj : ∀ (u v : Nat), Lib.decDigits u = Lib.decDigits v → u = v := by
  intro u
  induction u using Nat.strongRecOn with
  | _ u ih =>
  intro v h
  by_cases cu : u < 10
  · by_cases cv : v < 10
    · rw [dec_small cu, dec_small cv] at h
      exact digit_inj cu cv (List.cons.inj h).1
    · rw [dec_small cu, dec_big cv] at h
      have := congrArg List.length h
      have n := List.length_pos_iff.2 (dec_ne (v / 10))
      simp at this
      exact absurd this (dec_ne _)
  · by_cases cv : v < 10
    · rw [dec_big cu, dec_small cv] at h
      have := congrArg List.length h
      simp at this
      exact absurd this (dec_ne _)
    · rw [dec_big cu, dec_big cv] at h
      obtain ⟨h1, h2⟩ := List.append_inj' h rfl
      have e1 := ih (u / 10) (by omega) (v / 10) h1
      have e2 := digit_inj (by omega) (by omega) (List.cons.inj h2).1
      omega
theorem dec_digits : ∀ (u : Nat), ∀ b ∈ Lib.decDigits u, 48 ≤ b.toNat ∧ b.toNat ≤ 57 := by
  intro u
  induction u using Nat.strongRecOn with
  | _ u ih =>
  have dg : ∀ a : Nat, a < 10 → 48 ≤ (UInt8.ofNat (48 + a)).toNat ∧ (UInt8.ofNat (48 + a)).toNat ≤ 57 := fun a ha => by
    rw [UInt8.toNat_ofNat']
    omega
  by_cases cu : u < 10
  · rw [dec_small cu]
    intro b hb
    rw [List.mem_singleton] at hb
    rw [hb]
    exact dg u cu
  · rw [dec_big cu]
    intro b hb
    rcases List.mem_append.1 hb with hb | hb
    · exact ih (u / 10) (by omega) b hb
    · rw [List.mem_singleton] at hb
      rw [hb]
      exact dg _ (by omega)
theorem itoa_inj {a b : Int} (h : Lib.itoa a = Lib.itoa b) : a = b := by
  have no : ∀ (u : Nat) (t : List UInt8), Lib.decDigits u ≠ 45 :: t := fun u t e => by
    have := dec_digits u 45 (by rw [e]; exact List.mem_cons_self ..)
    have e45 : (45 : UInt8).toNat = 45 := rfl
    omega
  unfold Lib.itoa at h
  by_cases ca : a < 0
  · rw [if_pos ca] at h
    by_cases cb : b < 0
    · rw [if_pos cb] at h
      have := dec_inj _ _ (List.cons.inj h).2
      omega
    · rw [if_neg cb] at h
      exact absurd h.symm (no _ _)
  · rw [if_neg ca] at h
    by_cases cb : b < 0
    · rw [if_pos cb] at h
      exact absurd h (no _ _)
    · rw [if_neg cb] at h
      have := dec_inj _ _ h
      omega
def Wd (w : List UInt8) : Prop := w ≠ [] ∧ ∀ b ∈ w, b ≠ 32
theorem itoa_wd (n : Int) : Wd (Lib.itoa n) := by
  have sp : ∀ u : Nat, ∀ b ∈ Lib.decDigits u, b ≠ 32 := fun u b hb e => by
    have := dec_digits u b hb
    rw [e] at this
    have e32 : (32 : UInt8).toNat = 32 := rfl
    omega
  unfold Lib.itoa
  split
  · refine ⟨by simp, fun b hb => ?_⟩
    rcases List.mem_cons.1 hb with rfl | hb
    · decide
    · exact sp _ b hb
  · exact ⟨dec_ne _, sp _⟩
def wd (i : Fin 15) : List UInt8 := [[110, 117, 109], [97, 100, 100], [115, 117, 98], [109, 117, 108], [108, 101, 115, 115], [115, 97, 109, 101], [108, 111, 97, 100], [115, 116, 111, 114, 101], [115, 97, 121], [105, 102], [119, 104, 105, 108, 101], [105, 110], [119, 97, 105, 116], [115, 105, 103, 110, 97, 108], [121, 105, 101, 108, 100]].getD i.val []
def kd0 (i : Fin 15) : Int := [1, 2, 2, 2, 2, 2, 3, 4, 5, 6, 7, 8, 9, 10, 11].getD i.val 0
def kd3 (i : Fin 15) : Int := [0, 1, 2, 3, 4, 5, 0, 0, 0, 0, 0, 0, 0, 0, 0].getD i.val 0
theorem wd_inj : ∀ i j : Fin 15, wd i = wd j → i = j := by decide
theorem wd_ok : ∀ i : Fin 15, wd i ≠ [] ∧ (wd i).all (fun b => b != 32) = true ∧ wd i ≠ [93] ∧ wd i ≠ [91] := by decide
structure Knd (x : S49) (i : Fin 15) : Prop where
  h0 : x.f0 = kd0 i
  h3 : x.f0 = 2 → x.f3 = kd3 i
  hw : head0 x.f0 x.f3 = wd i
  n1 : ¬ 0 < fmA x.f0 → x.f1 = 0
  n2 : ¬ 0 < fmB x.f0 → x.f2 = 0
  n3 : x.f0 ≠ 1 → x.f0 ≠ 2 → x.f3 = 0
  n4 : fmX x.f0 = false → x.f4 = []
  n5 : fmY x.f0 = false → x.f5 = []
theorem knd_of {d : Nat} {x : S49} {m : Int} (h : okS (d + 1) x m = true) : ∃ i, Knd x i := by
  have key : ∀ (i : Fin 15), x.f0 = kd0 i → (x.f0 = 2 → x.f3 = kd3 i) → (¬ 0 < fmA (kd0 i) → x.f1 = 0) → (¬ 0 < fmB (kd0 i) → x.f2 = 0) → (kd0 i ≠ 1 → kd0 i ≠ 2 → x.f3 = 0) → (fmX (kd0 i) = false → x.f4 = []) → (fmY (kd0 i) = false → x.f5 = []) → head0 (kd0 i) (if kd0 i = 2 then kd3 i else x.f3) = wd i → ∃ i, Knd x i := by
    intro i h0 h3 a1 a2 a3 a4 a5 a6
    refine ⟨i, h0, h3, ?_, by rw [h0]; exact a1, by rw [h0]; exact a2, by rw [h0]; exact a3, by rw [h0]; exact a4, by rw [h0]; exact a5⟩
    rw [← a6, h0]
    split
    · rename_i e
      rw [h3 (h0.trans e)]
    · rfl
  have nil_of : ∀ l : List S49, l.length = 0 → l = [] := fun l => List.eq_nil_of_length_eq_zero
  unfold okS at h
  by_cases c6 : x.f0 = 6
  · rw [if_pos c6] at h
    simp only [inR, Bool.and_eq_true, decide_eq_true_eq] at h
    exact key 9 c6 (by omega) (by first | (intro z; exact absurd z (by decide)) | (intro _ z; exact absurd z (by decide))) (fun _ => h.2.1) (fun _ _ => h.2.2.1) (by first | (intro z; exact absurd z (by decide)) | (intro _ z; exact absurd z (by decide))) (by first | (intro z; exact absurd z (by decide)) | (intro _ z; exact absurd z (by decide))) (by rfl)
  rw [if_neg c6] at h
  by_cases c5 : x.f5.length = 0
  · rw [if_pos c5] at h
    have n5 := nil_of _ c5
    by_cases c7 : x.f0 = 7
    · rw [if_pos c7] at h
      simp only [inR, Bool.and_eq_true, decide_eq_true_eq] at h
      exact key 10 c7 (by omega) (by first | (intro z; exact absurd z (by decide)) | (intro _ z; exact absurd z (by decide))) (fun _ => h.2.1) (fun _ _ => h.2.2.1) (by first | (intro z; exact absurd z (by decide)) | (intro _ z; exact absurd z (by decide))) (fun _ => n5) (by rfl)
    rw [if_neg c7] at h
    by_cases c8 : x.f0 = 8
    · rw [if_pos c8] at h
      simp only [inR, Bool.and_eq_true, decide_eq_true_eq] at h
      exact key 11 c8 (by omega) (by first | (intro z; exact absurd z (by decide)) | (intro _ z; exact absurd z (by decide))) (fun _ => h.2.2.1) (fun _ _ => h.2.2.2.1) (by first | (intro z; exact absurd z (by decide)) | (intro _ z; exact absurd z (by decide))) (fun _ => n5) (by rfl)
    rw [if_neg c8] at h
    rw [Bool.and_eq_true, decide_eq_true_eq] at h
    have n4 := nil_of _ h.1
    have h2 := h.2
    unfold leafOk at h2
    by_cases c1 : x.f0 = 1
    · rw [if_pos c1] at h2
      simp only [inR, numR, Bool.and_eq_true, decide_eq_true_eq] at h2
      exact key 0 c1 (by omega) (by first | (intro z; exact absurd z (by decide)) | (intro _ z; exact absurd z (by decide))) (fun _ => h2.2.1) (by first | (intro z; exact absurd z (by decide)) | (intro _ z; exact absurd z (by decide))) (fun _ => n4) (fun _ => n5) (by rfl)
    rw [if_neg c1] at h2
    by_cases c2 : x.f0 = 2
    · rw [if_pos c2] at h2
      simp only [inR, numR, Bool.and_eq_true, decide_eq_true_eq] at h2
      rcases (by omega : x.f3 = 1 ∨ x.f3 = 2 ∨ x.f3 = 3 ∨ x.f3 = 4 ∨ x.f3 = 5) with e | e | e | e | e
      · exact key 1 c2 (fun _ => e) (by first | (intro z; exact absurd z (by decide)) | (intro _ z; exact absurd z (by decide))) (by first | (intro z; exact absurd z (by decide)) | (intro _ z; exact absurd z (by decide))) (by first | (intro z; exact absurd z (by decide)) | (intro _ z; exact absurd z (by decide))) (fun _ => n4) (fun _ => n5) (by rfl)
      · exact key 2 c2 (fun _ => e) (by first | (intro z; exact absurd z (by decide)) | (intro _ z; exact absurd z (by decide))) (by first | (intro z; exact absurd z (by decide)) | (intro _ z; exact absurd z (by decide))) (by first | (intro z; exact absurd z (by decide)) | (intro _ z; exact absurd z (by decide))) (fun _ => n4) (fun _ => n5) (by rfl)
      · exact key 3 c2 (fun _ => e) (by first | (intro z; exact absurd z (by decide)) | (intro _ z; exact absurd z (by decide))) (by first | (intro z; exact absurd z (by decide)) | (intro _ z; exact absurd z (by decide))) (by first | (intro z; exact absurd z (by decide)) | (intro _ z; exact absurd z (by decide))) (fun _ => n4) (fun _ => n5) (by rfl)
      · exact key 4 c2 (fun _ => e) (by first | (intro z; exact absurd z (by decide)) | (intro _ z; exact absurd z (by decide))) (by first | (intro z; exact absurd z (by decide)) | (intro _ z; exact absurd z (by decide))) (by first | (intro z; exact absurd z (by decide)) | (intro _ z; exact absurd z (by decide))) (fun _ => n4) (fun _ => n5) (by rfl)
      · exact key 5 c2 (fun _ => e) (by first | (intro z; exact absurd z (by decide)) | (intro _ z; exact absurd z (by decide))) (by first | (intro z; exact absurd z (by decide)) | (intro _ z; exact absurd z (by decide))) (by first | (intro z; exact absurd z (by decide)) | (intro _ z; exact absurd z (by decide))) (fun _ => n4) (fun _ => n5) (by rfl)
    rw [if_neg c2] at h2
    by_cases c3 : x.f0 = 3
    · rw [if_pos c3] at h2
      simp only [inR, numR, Bool.and_eq_true, decide_eq_true_eq] at h2
      exact key 6 c3 (by omega) (by first | (intro z; exact absurd z (by decide)) | (intro _ z; exact absurd z (by decide))) (by first | (intro z; exact absurd z (by decide)) | (intro _ z; exact absurd z (by decide))) (fun _ _ => h2.2.2) (fun _ => n4) (fun _ => n5) (by rfl)
    rw [if_neg c3] at h2
    by_cases c4 : x.f0 = 4
    · rw [if_pos c4] at h2
      simp only [inR, numR, Bool.and_eq_true, decide_eq_true_eq] at h2
      exact key 7 c4 (by omega) (by first | (intro z; exact absurd z (by decide)) | (intro _ z; exact absurd z (by decide))) (by first | (intro z; exact absurd z (by decide)) | (intro _ z; exact absurd z (by decide))) (fun _ _ => h2.2.2) (fun _ => n4) (fun _ => n5) (by rfl)
    rw [if_neg c4] at h2
    by_cases c5' : x.f0 = 5
    · rw [if_pos c5'] at h2
      simp only [inR, numR, Bool.and_eq_true, decide_eq_true_eq] at h2
      exact key 8 c5' (by omega) (by first | (intro z; exact absurd z (by decide)) | (intro _ z; exact absurd z (by decide))) (fun _ => h2.2.1) (fun _ _ => h2.2.2) (fun _ => n4) (fun _ => n5) (by rfl)
    rw [if_neg c5'] at h2
    by_cases c9 : x.f0 = 9
    · rw [if_pos c9] at h2
      simp only [inR, numR, Bool.and_eq_true, decide_eq_true_eq] at h2
      exact key 12 c9 (by omega) (by first | (intro z; exact absurd z (by decide)) | (intro _ z; exact absurd z (by decide))) (fun _ => h2.2.2.1) (fun _ _ => h2.2.2.2) (fun _ => n4) (fun _ => n5) (by rfl)
    rw [if_neg c9] at h2
    by_cases c10 : x.f0 = 10
    · rw [if_pos c10] at h2
      simp only [inR, numR, Bool.and_eq_true, decide_eq_true_eq] at h2
      exact key 13 c10 (by omega) (by first | (intro z; exact absurd z (by decide)) | (intro _ z; exact absurd z (by decide))) (fun _ => h2.2.1) (fun _ _ => h2.2.2) (fun _ => n4) (fun _ => n5) (by rfl)
    rw [if_neg c10] at h2
    by_cases c11 : x.f0 = 11
    · rw [if_pos c11] at h2
      simp only [inR, numR, Bool.and_eq_true, decide_eq_true_eq] at h2
      exact key 14 c11 (by omega) (fun _ => h2.1) (fun _ => h2.2.1) (fun _ _ => h2.2.2) (fun _ => n4) (fun _ => n5) (by rfl)
    rw [if_neg c11] at h2
    cases h2
  · rw [if_neg c5] at h
    cases h
def toks : Nat → List S49 → List (List UInt8)
  | 0, _ => []
  | d + 1, l => l.flatMap fun x => wHeads x.f0 x.f1 x.f2 x.f3 ++ ((if fmX x.f0 = true then [91] :: (toks d x.f4 ++ [[93]]) else []) ++ (if fmY x.f0 = true then [91] :: (toks d x.f5 ++ [[93]]) else []))
def stk (T : List S49 → List (List UInt8)) (x : S49) : List (List UInt8) := wHeads x.f0 x.f1 x.f2 x.f3 ++ ((if fmX x.f0 = true then [91] :: (T x.f4 ++ [[93]]) else []) ++ (if fmY x.f0 = true then [91] :: (T x.f5 ++ [[93]]) else []))
theorem toks_cons (d : Nat) (x : S49) (t : List S49) : toks (d + 1) (x :: t) = stk (toks d) x ++ toks (d + 1) t := List.flatMap_cons
theorem heads_cons (a0 a1 a2 a3 : Int) : ∃ t, wHeads a0 a1 a2 a3 = head0 a0 a3 :: t := ⟨_, by unfold wHeads; rw [List.append_assoc, List.append_assoc]; rfl⟩
theorem stk_ne (T : List S49 → List (List UInt8)) (x : S49) : stk T x ≠ [] := by
  obtain ⟨t, h⟩ := heads_cons x.f0 x.f1 x.f2 x.f3
  unfold stk
  rw [h]
  simp
theorem join_flat : ∀ ls : List (List (List UInt8)), (∀ l ∈ ls, l ≠ []) → Lib.join (ls.map fun l => Lib.join l [32]) [32] = Lib.join ls.flatten [32]
  | [], _ => rfl
  | [l], _ => by simp [Lib.join_one]
  | l :: m :: t, h => by
    have ih := join_flat (m :: t) fun x hx => h x (List.mem_cons_of_mem _ hx)
    have n1 : (m :: t).flatten ≠ [] := by
      have := h m (by simp)
      simp [this]
    have e : (l :: m :: t).map (fun l => Lib.join l [32]) = [Lib.join l [32]] ++ (m :: t).map (fun l => Lib.join l [32]) := rfl
    have e2 : (l :: m :: t).flatten = l ++ (m :: t).flatten := List.flatten_cons
    rw [e, join_append _ _ (by simp) (by simp), ih, Lib.join_one, e2, join_append l _ (h l (List.mem_cons_self ..)) n1]
theorem brT_join (d : Nat) (l : List S49) (hn : l ≠ [] → toks d l ≠ []) (h : txT d l = Lib.join (toks d l) [32]) (h0 : toks d [] = []) : brT (txT d) l = Lib.join ([91] :: (toks d l ++ [[93]])) [32] := by
  unfold brT
  by_cases c : l = []
  · subst c
    rw [if_pos (show ([] : List S49).length = 0 from rfl), h0]
    rfl
  · rw [if_neg (fun z => c (List.eq_nil_of_length_eq_zero z)), h]
    have e : ([91] :: (toks d l ++ [[93]]) : List (List UInt8)) = [[91]] ++ (toks d l ++ [[93]]) := rfl
    rw [e, join_append _ _ (by simp) (by simp), join_append _ _ (hn c) (by simp), Lib.join_one, Lib.join_one]
    simp [List.append_assoc]
theorem toks_nil (d : Nat) : toks d [] = [] := by cases d <;> rfl
theorem txT_toks : ∀ (d : Nat) (l : List S49), okD d l → txT d l = Lib.join (toks d l) [32]
  | 0, _, _ => rfl
  | d + 1, l, h => by
    have hs : ∀ x ∈ l, stT (txT d) x = Lib.join (stk (toks d) x) [32] := fun x hx => by
      have hk := okD_kids h hx
      have nn : ∀ t : List S49, okD d t → t ≠ [] → toks d t ≠ [] := fun t ht hn => by
        cases d with
        | zero =>
          obtain ⟨y, u, rfl⟩ := List.exists_cons_of_ne_nil hn
          obtain ⟨m, hm⟩ := ht y (List.mem_cons_self ..)
          cases hm
        | succ d =>
          obtain ⟨y, u, rfl⟩ := List.exists_cons_of_ne_nil hn
          rw [toks_cons]
          simp [stk_ne]
      have e4 := brT_join d x.f4 (nn _ hk.1) (txT_toks d x.f4 hk.1) (toks_nil d)
      have e5 := brT_join d x.f5 (nn _ hk.2) (txT_toks d x.f5 hk.2) (toks_nil d)
      have q := join_flat ((wHeads x.f0 x.f1 x.f2 x.f3).map (fun w => [w]) ++ ((if fmX x.f0 = true then [[91] :: (toks d x.f4 ++ [[93]])] else []) ++ (if fmY x.f0 = true then [[91] :: (toks d x.f5 ++ [[93]])] else []))) (by
        intro l hl
        rcases List.mem_append.1 hl with hl | hl
        · obtain ⟨w, _, rfl⟩ := List.mem_map.1 hl
          simp
        · rcases List.mem_append.1 hl with hl | hl
          · split at hl
            · rw [List.mem_singleton] at hl
              rw [hl]
              simp
            · cases hl
          · split at hl
            · rw [List.mem_singleton] at hl
              rw [hl]
              simp
            · cases hl)
      have e : (wHeads x.f0 x.f1 x.f2 x.f3 ++ optT (fmX x.f0) (txT d) x.f4 ++ optT (fmY x.f0) (txT d) x.f5) = (((wHeads x.f0 x.f1 x.f2 x.f3).map (fun w => [w]) ++ ((if fmX x.f0 = true then [[91] :: (toks d x.f4 ++ [[93]])] else []) ++ (if fmY x.f0 = true then [[91] :: (toks d x.f5 ++ [[93]])] else []))).map fun l => Lib.join l [32]) := by
        rw [List.map_append, List.map_append, List.map_map, List.append_assoc]
        congr 1
        · refine (List.map_id _).symm.trans (List.map_congr_left fun w _ => ?_)
          exact (Lib.join_one w [32]).symm
        · unfold optT
          rw [e4, e5]
          congr 1 <;> (split <;> rfl)
      unfold stT
      rw [e, q]
      congr 1
      unfold stk
      rw [List.flatten_append, List.flatten_append]
      congr 1
      · induction wHeads x.f0 x.f1 x.f2 x.f3 with
        | nil => rfl
        | cons w t ih => rw [List.map_cons, List.flatten_cons, ih]; rfl
      · congr 1 <;> (split <;> simp)
    show Lib.join (l.map (stT (txT d))) [32] = _
    rw [List.map_congr_left (g := fun x => Lib.join (stk (toks d) x) [32]) hs]
    have q := join_flat (l.map (stk (toks d))) (fun t ht => by
      obtain ⟨x, _, rfl⟩ := List.mem_map.1 ht
      exact stk_ne _ _)
    rw [List.map_map] at q
    exact q
theorem join_words : ∀ (a b : List (List UInt8)), (∀ w ∈ a, Wd w) → (∀ w ∈ b, Wd w) → Lib.join a [32] = Lib.join b [32] → a = b := by
  have first : ∀ (x y s t : List UInt8), Wd x → Wd y → (s = [] ∨ ∃ s', s = 32 :: s') → (t = [] ∨ ∃ t', t = 32 :: t') → x ++ s = y ++ t → x = y ∧ s = t := by
    intro x
    induction x with
    | nil => intro y s t hx; exact absurd rfl hx.1
    | cons c x ih =>
      intro y s t hx hy hs ht h
      obtain ⟨d, y, rfl⟩ := List.exists_cons_of_ne_nil hy.1
      obtain ⟨e1, hh⟩ := List.cons.inj h
      clear h
      subst e1
      by_cases x0 : x = []
      · subst x0
        by_cases y0 : y = []
        · subst y0
          exact ⟨rfl, hh⟩
        · obtain ⟨d, y, rfl⟩ := List.exists_cons_of_ne_nil y0
          rcases hs with rfl | ⟨s', rfl⟩
          · simp at hh
          · have := (List.cons.inj hh).1
            exact absurd this.symm (hy.2 d (by simp))
      · by_cases y0 : y = []
        · subst y0
          obtain ⟨d, x, rfl⟩ := List.exists_cons_of_ne_nil x0
          rcases ht with rfl | ⟨t', rfl⟩
          · simp at hh
          · have := (List.cons.inj hh).1
            exact absurd this (hx.2 d (by simp))
        · obtain ⟨e, f⟩ := ih y s t ⟨x0, fun b hb => hx.2 b (List.mem_cons_of_mem _ hb)⟩ ⟨y0, fun b hb => hy.2 b (List.mem_cons_of_mem _ hb)⟩ hs ht hh
          exact ⟨by rw [e], f⟩
  have tailF : ∀ l : List (List UInt8), Lib.joinTail [32] l = [] ∨ ∃ s, Lib.joinTail [32] l = 32 :: s := fun l => by
    cases l with
    | nil => exact .inl rfl
    | cons w t => exact .inr ⟨_, rfl⟩
  have tailJ : ∀ (w : List UInt8) (t : List (List UInt8)), Lib.joinTail [32] (w :: t) = 32 :: Lib.join (w :: t) [32] := fun w t => by
    rw [Lib.join_cons]
    simp [Lib.joinTail]
  intro a
  induction a with
  | nil =>
    intro b ha hb h
    cases b with
    | nil => rfl
    | cons y u =>
      rw [Lib.join_cons, Lib.join_nil] at h
      have := (hb y (List.mem_cons_self ..)).1
      simp at h
      exact absurd h.1 this
  | cons x t ih =>
    intro b ha hb h
    cases b with
    | nil =>
      rw [Lib.join_cons, Lib.join_nil] at h
      have := (ha x (List.mem_cons_self ..)).1
      simp at h
      exact absurd h.1 this
    | cons y u =>
      rw [Lib.join_cons, Lib.join_cons] at h
      obtain ⟨e, f⟩ := first x y _ _ (ha x (List.mem_cons_self ..)) (hb y (List.mem_cons_self ..)) (tailF t) (tailF u) h
      subst e
      congr 1
      cases t with
      | nil =>
        cases u with
        | nil => rfl
        | cons v u => rw [tailJ] at f; cases f
      | cons w t =>
        cases u with
        | nil => rw [tailJ] at f; cases f
        | cons v u =>
          rw [tailJ, tailJ] at f
          exact ih (v :: u) (fun z hz => ha z (List.mem_cons_of_mem _ hz)) (fun z hz => hb z (List.mem_cons_of_mem _ hz)) (List.cons.inj f).2
def Stop (r : List (List UInt8)) : Prop := r = [] ∨ ∃ r', r = [93] :: r'
theorem s_ext {x y : S49} (h0 : x.f0 = y.f0) (h1 : x.f1 = y.f1) (h2 : x.f2 = y.f2) (h3 : x.f3 = y.f3) (h4 : x.f4 = y.f4) (h5 : x.f5 = y.f5) : x = y := by
  cases x
  cases y
  simp_all
theorem num_part {c : Prop} [Decidable c] {a b : Int} {s t : List (List UInt8)} (na : ¬ c → a = 0) (nb : ¬ c → b = 0) (h : (if c then [Lib.itoa a] else []) ++ s = (if c then [Lib.itoa b] else []) ++ t) : a = b ∧ s = t := by
  by_cases hc : c
  · rw [if_pos hc, if_pos hc] at h
    obtain ⟨h1, h2⟩ := List.cons.inj h
    exact ⟨itoa_inj h1, h2⟩
  · rw [if_neg hc, if_neg hc] at h
    exact ⟨(na hc).trans (nb hc).symm, h⟩
theorem read_uniq : ∀ (d : Nat) (a b : List S49) (r s : List (List UInt8)), okD d a → okD d b → Stop r → Stop s → toks d a ++ r = toks d b ++ s → a = b ∧ r = s
  | 0, a, b, r, s, ha, hb, _, _, h => by
    have nil0 : ∀ l : List S49, okD 0 l → l = [] := fun l hl => by
      cases l with
      | nil => rfl
      | cons x t =>
        obtain ⟨m, hm⟩ := hl x (List.mem_cons_self ..)
        cases hm
    rw [nil0 a ha, nil0 b hb]
    exact ⟨rfl, h⟩
  | d + 1, a, b, r, s, ha, hb, hr, hs, h => by
    have body : ∀ {c : Bool} {p q : List S49} {u v : List (List UInt8)}, okD d p → okD d q → (c = false → p = []) → (c = false → q = []) → (if c = true then [91] :: (toks d p ++ [[93]]) else []) ++ u = (if c = true then [91] :: (toks d q ++ [[93]]) else []) ++ v → p = q ∧ u = v := by
      intro c p q u v hp hq np nq h
      cases c with
      | false => exact ⟨(np rfl).trans (nq rfl).symm, h⟩
      | true =>
        have h1 : toks d p ++ ([93] :: u) = toks d q ++ ([93] :: v) := by
          have := (List.cons.inj (show [91] :: (toks d p ++ [[93]] ++ u) = [91] :: (toks d q ++ [[93]] ++ v) from h)).2
          simpa [List.append_assoc] using this
        obtain ⟨e, f⟩ := read_uniq d p q _ _ hp hq (.inr ⟨_, rfl⟩) (.inr ⟨_, rfl⟩) h1
        exact ⟨e, (List.cons.inj f).2⟩
    have one : ∀ (x y : S49) (u v : List (List UInt8)), (∃ m, okS (d + 1) x m = true) → (∃ m, okS (d + 1) y m = true) → okD d x.f4 ∧ okD d x.f5 → okD d y.f4 ∧ okD d y.f5 → stk (toks d) x ++ u = stk (toks d) y ++ v → x = y ∧ u = v := by
      intro x y u v hx hy kx ky h
      obtain ⟨m, hm⟩ := hx
      obtain ⟨m', hm'⟩ := hy
      obtain ⟨i, X⟩ := knd_of hm
      obtain ⟨j, Y⟩ := knd_of hm'
      unfold stk wHeads at h
      simp only [List.append_assoc, List.cons_append, List.nil_append] at h
      obtain ⟨h0, h⟩ := List.cons.inj h
      rw [X.hw, Y.hw] at h0
      obtain rfl := wd_inj i j h0
      have e0 : x.f0 = y.f0 := X.h0.trans Y.h0.symm
      rw [← e0] at h
      obtain ⟨e1, h⟩ := num_part X.n1 (by rw [e0]; exact Y.n1) h
      obtain ⟨e2, h⟩ := num_part X.n2 (by rw [e0]; exact Y.n2) h
      have e3' : x.f3 = y.f3 ∧ (if fmX x.f0 = true then [91] :: (toks d x.f4 ++ [[93]]) else []) ++ ((if fmY x.f0 = true then [91] :: (toks d x.f5 ++ [[93]]) else []) ++ u) = (if fmX x.f0 = true then [91] :: (toks d y.f4 ++ [[93]]) else []) ++ ((if fmY x.f0 = true then [91] :: (toks d y.f5 ++ [[93]]) else []) ++ v) := by
        by_cases c2 : x.f0 = 2
        · refine ⟨(X.h3 c2).trans (Y.h3 (e0.symm.trans c2)).symm, ?_⟩
          have n1 : ¬ x.f0 = 1 := by omega
          rw [if_neg n1, if_neg n1] at h
          simpa [List.append_assoc] using h
        · obtain ⟨e, f⟩ := num_part (fun z => X.n3 z c2) (fun z => Y.n3 (by rw [← e0]; exact z) (by rw [← e0]; exact c2)) h
          exact ⟨e, by simpa [List.append_assoc] using f⟩
      obtain ⟨e3, h⟩ := e3'
      obtain ⟨e4, h⟩ := body kx.1 ky.1 X.n4 (by rw [e0]; exact Y.n4) h
      obtain ⟨e5, h⟩ := body kx.2 ky.2 X.n5 (by rw [e0]; exact Y.n5) h
      exact ⟨s_ext e0 e1 e2 e3 e4 e5, h⟩
    have start : ∀ (y : S49) (t : List (List UInt8)) (q : List (List UInt8)), (∃ m, okS (d + 1) y m = true) → Stop q → q ≠ stk (toks d) y ++ t := by
      intro y t q hy hq h
      obtain ⟨m, hm⟩ := hy
      obtain ⟨i, Y⟩ := knd_of hm
      obtain ⟨w, hw⟩ := heads_cons y.f0 y.f1 y.f2 y.f3
      unfold stk at h
      rw [hw] at h
      rcases hq with rfl | ⟨q', rfl⟩
      · simp at h
      · have := (List.cons.inj (by simpa [List.append_assoc] using h)).1
        rw [Y.hw] at this
        exact (wd_ok i).2.2.1 this.symm
    induction a generalizing b with
    | nil =>
      cases b with
      | nil => exact ⟨rfl, by simpa [toks_nil] using h⟩
      | cons y u =>
        rw [toks_nil, toks_cons, List.append_assoc] at h
        exact absurd h (start y _ r (hb y (List.mem_cons_self ..)) hr)
    | cons x t ih =>
      cases b with
      | nil =>
        rw [toks_nil, toks_cons, List.append_assoc] at h
        exact absurd h.symm (start x _ s (ha x (List.mem_cons_self ..)) hs)
      | cons y u =>
        rw [toks_cons, toks_cons, List.append_assoc, List.append_assoc] at h
        obtain ⟨e, f⟩ := one x y _ _ (ha x (List.mem_cons_self ..)) (hb y (List.mem_cons_self ..)) (okD_kids ha (List.mem_cons_self ..)) (okD_kids hb (List.mem_cons_self ..)) h
        obtain ⟨e2, f2⟩ := ih u (fun z hz => ha z (List.mem_cons_of_mem _ hz)) (fun z hz => hb z (List.mem_cons_of_mem _ hz)) f
        exact ⟨by rw [e, e2], f2⟩
end Go.Proofs.YtnegnanlbdncmaaDoor.P
