/- Parts of the proof of FnExactStmtsText: plain Lean functions of Go functions, and that the calls come to what they say; no condition beyond those that each theorem names. -/
import Derived.Test.YtnegnanlbdncmaaDoorZFnExactStmtsText13
import Derived.Deep.RegionWith
import Derived.Test.YtnegnanlbdncmaaDoorZFnExactStmtsText4
import Derived.Test.YtnegnanlbdncmaaDoorZFnExactStmtsText5
import Derived.Test.YtnegnanlbdncmaaDoorZFnExactStmtsText8
import Derived.Test.YtnegnanlbdncmaaDoorZFnExactStmtsText16
namespace Go.Proofs.YtnegnanlbdncmaaDoor.P
open Go.RowKit Go.Maps Go.Proofs.YtnegnanlbdncmaaDoorW.PrintWords Go.Proofs.YtnegnanlbdncmaaDoorW.PrintLast Go.Proofs.YtnegnanlbdncmaaDoorW.PrintMore
attribute [local go_sem] max2_int min2_int max_two min_two max_three min_three max_four min_four
attribute [local go_sem ↓] Go.wp_at_zero Go.wp_at_succ
set_option linter.unusedVariables false
set_option linter.unusedSimpArgs false
set_option maxHeartbeats 2000000 in
set_option maxRecDepth 100000 in
theorem str_of (F : List S49 → Option (List UInt8)) (hF : TSays F) (a0 a1 a2 a3 : Int) (A4 : Option Addr) (c4 : Nat) (l4 : List S49) (A5 : Option Addr) (c5 : Nat) (l5 : List S49) (r : List UInt8) (w : World) (hT : Tab w)
    (hr4 : Kd.C k49 w A4 l4.length l4) (hc4 : l4.length ≤ c4) (hr5 : Kd.C k49 w A5 l5.length l5) (hc5 : l5.length ≤ c5) (h : stB F a0 a1 a2 a3 l4 l5 = some r) :
    Calls Tryd.prog 46 #[.agg #[.int .i64 a0, .int .i64 a1, .int .i64 a2, .int .i64 a3, .slice A4 l4.length c4, .slice A5 l5.length c5]] w fun e w' => e = .returned (sV r) ∧ Below w.heap.size w w' := by
  have HR4 := Aside0.mk hr4
  have HR5 := Aside0.mk hr5
  have HF := Aside0.mk hF
  have HT := Aside0.mk hT
  clear hr4 hr5 hF hT
  unfold stB at h
  split at h
  case isFalse => cases h
  rename_i hok
  obtain ⟨x, hx, h1⟩ := Option.bind_eq_some_iff.1 h
  obtain ⟨y, hy, h2⟩ := Option.bind_eq_some_iff.1 h1
  have HX := Aside0.mk hx
  have HY := Aside0.mk hy
  have HJ := Aside0.mk h2
  have HN := Aside0.mk hok
  clear hx hy h h1 h2 hok
  have hl1 := look1' w
  have hl2 := look2' w
  have hl3 := look3' w
  go_enter Tryd.func46, Tryd.ntmps46
  go_upto_region 1 with fail
  go_cut [3] (fun s3 wx => ∃ g : Nat, s3 = .pointer (some ⟨g, 0, none⟩) ∧ Aside0 (OkAt wx w.heap.size g a0 a1 a2 a3 (.slice A4 l4.length c4) (.slice A5 l5.length c5)) ∧ Aside0 (Below w.heap.size w wx))
  case first =>
    go_region_held3 (fun w' => w'.cell? ⟨w.heap.size, 0, none⟩ = some (.int .i64 a0)) (go_keep)
      (first | (go_at_call 58; refine (forms_calls _).mono ?_; rintro e w' ⟨rfl, rfl⟩))
    all_goals (go_wp2_with fail; go_meet; first | exact ⟨_, rfl, ⟨okAt1 w _ _ _ _ _ _⟩, ⟨below_drew1 (below_alloc (below_alloc (below_alloc (Below.refl _ w) _) _) _)⟩⟩ | exact ⟨_, rfl, ⟨okAt3 w _ _ _ _ _ _⟩, ⟨below_drew1 (below_alloc (below_alloc (below_alloc (Below.refl _ w) _) _) _)⟩⟩)
  case rest =>
  obtain ⟨g, rfl, HOk, HB⟩ := hcut
  clear hl1 hl2 hl3
  obtain ⟨e0, e1, e2, e3, e4, e5, f1, f2, f3, f4⟩ := HOk.out.cells
  have f0 := cell_of HOk.out.f 0 rfl
  have HW : WdAt w (wc.alloc (.cells #[.string (fmS a0)] 9)) g a0 a1 a2 a3 (.slice A4 l4.length c4) (.slice A5 l5.length c5) (.slice (some ⟨wc.heap.size, 0, none⟩) 1 1) [(fmS a0).data.toList] 8 := by
    refine ⟨HOk.out.below ((Below.refl _ _).alloc (Nat.le_refl _) _), ?_, HB.out.alloc HB.out.size _, Nat.le_of_ble_eq_true rfl⟩
    have := World.ownsRow_lit (base := w.heap.size) (e := 9) (size := 1) wc #[.string (fmS a0)] 1 HB.out.size (by decide) rfl
    simpa [encs, sV] using this
  have HW := Aside0.mk HW
  go_upto_region 3 with fail
  obtain ⟨b, hb⟩ : ∃ b, b = wc.heap.size := ⟨_, rfl⟩
  rw [← hb] at HW ⊢
  generalize wc.alloc (.cells #[.string (fmS a0)] 9) = w1 at *
  clear hb HOk HB e0 e1 e2 e3 e4 e5 f0 f1 f2 f3 f4
  obtain ⟨e0, e1, e2, e3, e4, e5, f1, f2, f3, f4⟩ := HW.out.k.cells
  go_upto_if 16 with fail
  go_cut [4] (fun s4 wx => ∃ v : Value, s4 = v ∧ Aside0 (WdAt w wx g a0 a1 a2 a3 (.slice A4 l4.length c4) (.slice A5 l5.length c5) v [head0 a0 a3] 8))
  case first =>
    by_cases k0 : a0 = 2
    · have k0a : (a0 == 2) = true := by simpa using k0
      clear f1 f2 f3 f4 e1 e2 e4 e5
      have ha3 := HN.out.2.2.2 k0
      obtain ⟨x0, y0, y1⟩ := own_blk HW.out.o (Nat.zero_lt_one) rfl
      have x1 := fun o => (y1 o).1
      replace y1 := fun o => (y1 o).2
      have z1 : ∀ o : Obj, (w1.alloc o).cell? ⟨w.heap.size, 3, none⟩ = some (.int .i64 a3) := fun o => (blk_cell (blk_alloc HW.out.k.s o) 3).trans rfl
      have K0 := Aside0.mk k0
      clear k0
      rcases (by omega : a3 = 0 ∨ a3 = 1 ∨ a3 = 2 ∨ a3 = 3 ∨ a3 = 4 ∨ a3 = 5) with rfl | rfl | rfl | rfl | rfl | rfl
      · clear ha3
        go_upto_region 4 with fail
        go_region_with (first | (go_at_call 61; refine (opWords_calls _).mono ?_; rintro e w' ⟨rfl, rfl⟩; unfold opsC sV))
        all_goals (go_wp2_with fail; go_meet; exact ⟨_, rfl, ⟨by rw [show head0 a0 0 = opW 0 from if_pos K0.out]; exact HW.out.put _ (opW 0)⟩⟩)
      · clear ha3
        go_upto_region 4 with fail
        go_region_with (first | (go_at_call 61; refine (opWords_calls _).mono ?_; rintro e w' ⟨rfl, rfl⟩; unfold opsC sV))
        all_goals (go_wp2_with fail; go_meet; exact ⟨_, rfl, ⟨by rw [show head0 a0 1 = opW 1 from if_pos K0.out]; exact HW.out.put _ (opW 1)⟩⟩)
      · clear ha3
        go_upto_region 4 with fail
        go_region_with (first | (go_at_call 61; refine (opWords_calls _).mono ?_; rintro e w' ⟨rfl, rfl⟩; unfold opsC sV))
        all_goals (go_wp2_with fail; go_meet; exact ⟨_, rfl, ⟨by rw [show head0 a0 2 = opW 2 from if_pos K0.out]; exact HW.out.put _ (opW 2)⟩⟩)
      · clear ha3
        go_upto_region 4 with fail
        go_region_with (first | (go_at_call 61; refine (opWords_calls _).mono ?_; rintro e w' ⟨rfl, rfl⟩; unfold opsC sV))
        all_goals (go_wp2_with fail; go_meet; exact ⟨_, rfl, ⟨by rw [show head0 a0 3 = opW 3 from if_pos K0.out]; exact HW.out.put _ (opW 3)⟩⟩)
      · clear ha3
        go_upto_region 4 with fail
        go_region_with (first | (go_at_call 61; refine (opWords_calls _).mono ?_; rintro e w' ⟨rfl, rfl⟩; unfold opsC sV))
        all_goals (go_wp2_with fail; go_meet; exact ⟨_, rfl, ⟨by rw [show head0 a0 4 = opW 4 from if_pos K0.out]; exact HW.out.put _ (opW 4)⟩⟩)
      · clear ha3
        go_upto_region 4 with fail
        go_region_with (first | (go_at_call 61; refine (opWords_calls _).mono ?_; rintro e w' ⟨rfl, rfl⟩; unfold opsC sV))
        all_goals (go_wp2_with fail; go_meet; exact ⟨_, rfl, ⟨by rw [show head0 a0 5 = opW 5 from if_pos K0.out]; exact HW.out.put _ (opW 5)⟩⟩)
    · have k0a : (a0 == 2) = false := by simpa using k0
      go_wp2
      go_meet
      have e : head0 a0 a3 = (fmS a0).data.toList := if_neg k0
      exact ⟨_, rfl, by rw [e]; exact HW⟩
  case rest =>
  obtain ⟨v, rfl, HV⟩ := hcut
  clear HW e0 e1 e2 e3 e4 e5 f1 f2 f3 f4
  have HW := HV
  clear HV
  obtain ⟨e0, e1, e2, e3, e4, e5, f1, f2, f3, f4⟩ := HW.out.k.cells
  go_wp2
  have HL := Aside0.mk (blk_new wc (.cells #[.int .i64 (fmA a0), .int .i64 (fmB a0)] 3))
  have HV := Aside0.mk (HW.out.below ((Below.refl _ wc).alloc (Nat.le_refl _) (.cells #[.int .i64 (fmA a0), .int .i64 (fmB a0)] 3)))
  clear HW e0 e1 e2 e3 e4 e5 f1 f2 f3 f4
  have HW := HV
  clear HV
  generalize wc.heap.size = q at *
  generalize wc.alloc (.cells #[.int .i64 (fmA a0), .int .i64 (fmB a0)] 3) = w2 at *
  go_loopg [4, 30] 3 (fun gg p4 p30 wr => ∃ (kk : Nat) (v : Value), kk ≤ 2 ∧ 2 - kk < gg ∧ p4 = v ∧ p30 = .int .i64 kk ∧ Aside0 (WdAt w wr g a0 a1 a2 a3 (.slice A4 l4.length c4) (.slice A5 l5.length c5) v (wsAt a0 a1 a2 a3 kk) (8 - kk)) ∧ Aside0 (wr.heap[q]? = some (.cells #[.int .i64 (fmA a0), .int .i64 (fmB a0)] 3 (0, 0))))
  case atStart => exact ⟨0, _, by omega, by omega, rfl, rfl, HW, HL⟩
  case round =>
    obtain ⟨kk, vv, hkk, hgk, rfl, rfl, HV, HL⟩ := hrel
    obtain ⟨e0, e1, e2, e3, e4, e5, f1, f2, f3, f4⟩ := HV.out.k.cells
    obtain ⟨ws, hws⟩ : ∃ l, l = wsAt a0 a1 a2 a3 kk := ⟨_, rfl⟩
    rw [← hws] at HV
    obtain ⟨Av, cv, rfl⟩ := own_slice HV.out.o
    rcases (by omega : kk = 0 ∨ kk = 1 ∨ kk = 2) with rfl | rfl | rfl
    · clear HW
      by_cases kA : 0 < fmA a0
      · have kA1 : decide (0 < fmA a0) = true := decide_eq_true kA
        have hit := fun o : Obj => itoa_calls a1 HN.out.1.1 HN.out.1.2 (wr.alloc o) ((HT.out.below HV.out.b).below ((Below.refl _ _).alloc (Nat.le_refl _) o))
        have HIT := Aside0.mk hit
        have KA := Aside0.mk (hws.trans rfl ▸ wsA_pos (a1 := a1) (a2 := a2) (a3 := a3) kA : wsAt a0 a1 a2 a3 1 = ws ++ [Lib.itoa a1])
        clear hit kA hws e4 e5 f1 f2 f3 f4
        have l0 := (blk_cell HL.out 0).trans (rfl : _ = some (Value.int .i64 (fmA a0)))
        go_wp2_with (first
          | (go_at_call 62; refine (HIT.out _).mono ?_; rintro e w3 ⟨rfl, hb⟩; have hb1 := below_step ((Below.refl _ wr).alloc (Nat.le_refl _) _) hb; have n1 := Aside0.mk (HV.out.below hb1); have n2 := Aside0.mk (blk_below HL.out hb1); clear hb hb1 HV HL e0 e1 e2 e3 l0 HIT; have HV := n1; have HL := n2; clear n1 n2)
          | ((with_reducible refine gate_builtin (b := .append) (xs := #[.tmp 37, .tmp 47]) rfl ?_); at_builtin; refine print_append_of sV w.heap.size rfl (.tmp 37) (.tmp 47) 66 9 (.string ⟨#[]⟩) 16 rfl Tryd.underlying66 info9 rfl (by decide) (.slice Av _ cv) ws (Lib.itoa a1) rfl rfl rfl HV.out.o HV.out.b HV.out.b.size HV.out.room ?_; intro v1 w4 ho hb hg hat; have n1 := Aside0.mk (HV.out.app (m := 7) hg ho hb); have n2 := Aside0.mk (blk_app HV.out hg HL.out (by decide)); clear ho hb hg hat HV HL; have HV := n1; have HL := n2; clear n1 n2; obtain ⟨A1, c1, rfl⟩ := own_slice HV.out.o))
        go_roundg 2
        case measure => omega
        case rel => exact ⟨1, _, by omega, by omega, rfl, rfl, ⟨by rw [KA.out]; have z := HV.out; rw [show (ws ++ [Lib.itoa a1]).length = ws.length + 1 from by simp] at z; exact z⟩, HL⟩
      · have kA1 : decide (0 < fmA a0) = false := decide_eq_false kA
        have KA := Aside0.mk (hws.trans rfl ▸ wsA_neg (a1 := a1) (a2 := a2) (a3 := a3) kA : wsAt a0 a1 a2 a3 1 = ws)
        clear kA hws e4 e5 f1 f2 f3 f4
        have l0 := (blk_cell HL.out 0).trans (rfl : _ = some (Value.int .i64 (fmA a0)))
        go_wp2
        go_roundg 2
        case measure => omega
        case rel => exact ⟨1, _, by omega, by omega, rfl, rfl, ⟨by rw [KA.out]; exact HV.out.weak (m' := 7) (by omega)⟩, HL⟩
    · clear HW
      by_cases kA : 0 < fmB a0
      · have kA1 : decide (0 < fmB a0) = true := decide_eq_true kA
        have hit := fun o : Obj => itoa_calls a2 HN.out.2.1.1 HN.out.2.1.2 (wr.alloc o) ((HT.out.below HV.out.b).below ((Below.refl _ _).alloc (Nat.le_refl _) o))
        have HIT := Aside0.mk hit
        have KA := Aside0.mk (hws.trans rfl ▸ wsB_pos (a1 := a1) (a2 := a2) (a3 := a3) kA : wsAt a0 a1 a2 a3 2 = ws ++ [Lib.itoa a2])
        clear hit kA hws e4 e5 f1 f2 f3 f4
        have l0 := (blk_cell HL.out 1).trans (rfl : _ = some (Value.int .i64 (fmB a0)))
        go_wp2_with (first
          | (go_at_call 62; refine (HIT.out _).mono ?_; rintro e w3 ⟨rfl, hb⟩; have hb1 := below_step ((Below.refl _ wr).alloc (Nat.le_refl _) _) hb; have n1 := Aside0.mk (HV.out.below hb1); have n2 := Aside0.mk (blk_below HL.out hb1); clear hb hb1 HV HL e0 e1 e2 e3 l0 HIT; have HV := n1; have HL := n2; clear n1 n2)
          | ((with_reducible refine gate_builtin (b := .append) (xs := #[.tmp 37, .tmp 47]) rfl ?_); at_builtin; refine print_append_of sV w.heap.size rfl (.tmp 37) (.tmp 47) 66 9 (.string ⟨#[]⟩) 16 rfl Tryd.underlying66 info9 rfl (by decide) (.slice Av _ cv) ws (Lib.itoa a2) rfl rfl rfl HV.out.o HV.out.b HV.out.b.size HV.out.room ?_; intro v1 w4 ho hb hg hat; have n1 := Aside0.mk (HV.out.app (m := 6) hg ho hb); have n2 := Aside0.mk (blk_app HV.out hg HL.out (by decide)); clear ho hb hg hat HV HL; have HV := n1; have HL := n2; clear n1 n2; obtain ⟨A1, c1, rfl⟩ := own_slice HV.out.o))
        go_roundg 1
        case measure => omega
        case rel => exact ⟨2, _, by omega, by omega, rfl, rfl, ⟨by rw [KA.out]; have z := HV.out; rw [show (ws ++ [Lib.itoa a2]).length = ws.length + 1 from by simp] at z; exact z⟩, HL⟩
      · have kA1 : decide (0 < fmB a0) = false := decide_eq_false kA
        have KA := Aside0.mk (hws.trans rfl ▸ wsB_neg (a1 := a1) (a2 := a2) (a3 := a3) kA : wsAt a0 a1 a2 a3 2 = ws)
        clear kA hws e4 e5 f1 f2 f3 f4
        have l0 := (blk_cell HL.out 1).trans (rfl : _ = some (Value.int .i64 (fmB a0)))
        go_wp2
        go_roundg 1
        case measure => omega
        case rel => exact ⟨2, _, by omega, by omega, rfl, rfl, ⟨by rw [KA.out]; exact HV.out.weak (m' := 6) (by omega)⟩, HL⟩
    · clear HW HL
      have KW := Aside0.mk hws
      have HW := Aside0.mk (show WdAt w wr g a0 a1 a2 a3 (.slice A4 l4.length c4) (.slice A5 l5.length c5) (.slice Av ws.length cv) ws (5 + 1) from HV.out)
      clear hws hgk hkk HV
      go_upto_if 52 with fail
      go_cut [4] (fun s4 wx => ∃ v ws1, s4 = v ∧ Aside0 (ws1 = heads a0 a1 a2 a3) ∧ Aside0 (WdAt w wx g a0 a1 a2 a3 (.slice A4 l4.length c4) (.slice A5 l5.length c5) v ws1 5))
      case first =>
        by_cases k1 : a0 = 1
        · have k1a : (a0 == 1) = true := by simpa using k1
          have hit := fun W (hb : Below wr.heap.size wr W) => itoa_calls a3 HN.out.2.2.1.1 HN.out.2.2.1.2 W ((HT.out.below HW.out.b).below hb)
          have HIT := Aside0.mk (hit wr (Below.refl _ _))
          have KA := Aside0.mk (show ws ++ [Lib.itoa a3] = heads a0 a1 a2 a3 by rw [KW.out]; unfold heads wsAt; rw [if_pos k1])
          clear hit k1 e4 e5 f1 f2 f3 f4 KW
          go_wp2_with (first
            | (go_at_call 62; refine HIT.out.mono ?_; rintro e w3 ⟨rfl, hb⟩; have n1 := Aside0.mk (HW.out.below hb); clear hb HW e0 e1 e2 e3 HIT; have HW := n1; clear n1)
            | ((with_reducible refine gate_builtin (b := .append) (xs := #[.tmp 53, .tmp 57]) rfl ?_); at_builtin; refine print_append_of sV w.heap.size rfl (.tmp 53) (.tmp 57) 66 9 (.string ⟨#[]⟩) 16 rfl Tryd.underlying66 info9 rfl (by decide) (.slice Av _ cv) ws (Lib.itoa a3) rfl rfl rfl HW.out.o HW.out.b HW.out.b.size HW.out.room ?_; intro v1 w4 ho hb hg hat; have n1 := Aside0.mk (HW.out.app (m := 5) hg ho hb); clear ho hb hg hat HW; have HW := n1; clear n1))
          go_meet
          exact ⟨_, _, rfl, KA, HW⟩
        · have k1a : (a0 == 1) = false := by simpa using k1
          have KA := Aside0.mk (show ws = heads a0 a1 a2 a3 by rw [KW.out]; unfold heads wsAt; rw [if_neg k1, List.append_nil])
          clear k1 KW
          go_wp2
          go_meet
          exact ⟨_, _, rfl, KA, ⟨HW.out.weak (by omega)⟩⟩
      case rest =>
      obtain ⟨v1, ws1, rfl, KW1, HV⟩ := hcut
      clear HW e0 e1 e2 e3 e4 e5 f1 f2 f3 f4 KW
      have HW := HV
      clear HV
      obtain ⟨e0, e1, e2, e3, e4, e5, f1, f2, f3, f4⟩ := HW.out.k.cells
      obtain ⟨Av1, cv1, rfl⟩ := own_slice HW.out.o
      go_upto_if 60 with fail
      go_cut [4] (fun s4 wx => ∃ v ws2, s4 = v ∧ Aside0 (ws2 = heads a0 a1 a2 a3 ++ x) ∧ Aside0 (WdAt w wx g a0 a1 a2 a3 (.slice A4 l4.length c4) (.slice A5 l5.length c5) v ws2 4))
      case first =>
        cases hfm : fmX a0 with
        | true =>
          obtain ⟨t, hx, ht⟩ : ∃ t, x = [t] ∧ brF F l4 = some t := by
            have z := HX.out
            rw [hfm] at z
            obtain ⟨t, h1, h2⟩ := Option.bind_eq_some_iff.1 (show (brF F l4).bind (fun t => some [t]) = some x from z)
            exact ⟨t, (Option.some.inj h2).symm, h1⟩
          have HIT := Aside0.mk (brk_of F HF.out A4 c4 l4 t wc (HT.out.below HW.out.b) (Kd.C_below HR4.out HW.out.b) hc4 ht)
          have KA := Aside0.mk (show ws1 ++ [t] = heads a0 a1 a2 a3 ++ x by rw [KW1.out, hx])
          clear ht hx
          go_wp2_with (first
            | (go_at_call 63; refine HIT.out.mono ?_; rintro e w3 ⟨rfl, hb⟩; unfold sV; have n1 := Aside0.mk (HW.out.below hb); clear hb HW e0 e1 e2 e3 e4 e5 f1 f2 f3 f4 HIT; have HW := n1; clear n1)
            | ((with_reducible refine gate_builtin (b := .append) (xs := #[.tmp 61, .tmp 65]) rfl ?_); at_builtin; refine print_append_of sV w.heap.size rfl (.tmp 61) (.tmp 65) 66 9 (.string ⟨#[]⟩) 16 rfl Tryd.underlying66 info9 rfl (by decide) (.slice Av1 _ cv1) ws1 t rfl rfl rfl HW.out.o HW.out.b HW.out.b.size HW.out.room ?_; intro v1 w4 ho hb hg hat; have n1 := Aside0.mk (HW.out.app (m := 4) hg ho hb); clear ho hb hg hat HW; have HW := n1; clear n1))
          go_meet
          exact ⟨_, _, rfl, KA, HW⟩
        | false =>
          have KA := Aside0.mk (show ws1 = heads a0 a1 a2 a3 ++ x by
            have z := HX.out
            rw [hfm] at z
            rw [KW1.out, ← Option.some.inj (show some [] = some x from z), List.append_nil])
          go_wp2
          go_meet
          exact ⟨_, _, rfl, KA, ⟨HW.out.weak (by omega)⟩⟩
      case rest =>
      obtain ⟨v2, ws2, rfl, KW2, HV⟩ := hcut
      clear HW e0 e1 e2 e3 e4 e5 f1 f2 f3 f4
      have HW := HV
      clear HV
      obtain ⟨e0, e1, e2, e3, e4, e5, f1, f2, f3, f4⟩ := HW.out.k.cells
      obtain ⟨Av2, cv2, rfl⟩ := own_slice HW.out.o
      go_upto_if 68 with fail
      go_cut [4] (fun s4 wx => ∃ v ws2, s4 = v ∧ Aside0 (ws2 = heads a0 a1 a2 a3 ++ x ++ y) ∧ Aside0 (WdAt w wx g a0 a1 a2 a3 (.slice A4 l4.length c4) (.slice A5 l5.length c5) v ws2 3))
      case first =>
        cases hfm : fmY a0 with
        | true =>
          obtain ⟨t, hx, ht⟩ : ∃ t, y = [t] ∧ brF F l5 = some t := by
            have z := HY.out
            rw [hfm] at z
            obtain ⟨t, h1, h2⟩ := Option.bind_eq_some_iff.1 (show (brF F l5).bind (fun t => some [t]) = some y from z)
            exact ⟨t, (Option.some.inj h2).symm, h1⟩
          have HIT := Aside0.mk (brk_of F HF.out A5 c5 l5 t wc (HT.out.below HW.out.b) (Kd.C_below HR5.out HW.out.b) hc5 ht)
          have KA := Aside0.mk (show ws2 ++ [t] = heads a0 a1 a2 a3 ++ x ++ y by rw [KW2.out, hx])
          clear ht hx
          go_wp2_with (first
            | (go_at_call 63; refine HIT.out.mono ?_; rintro e w3 ⟨rfl, hb⟩; unfold sV; have n1 := Aside0.mk (HW.out.below hb); clear hb HW e0 e1 e2 e3 e4 e5 f1 f2 f3 f4 HIT; have HW := n1; clear n1)
            | ((with_reducible refine gate_builtin (b := .append) (xs := #[.tmp 69, .tmp 73]) rfl ?_); at_builtin; refine print_append_of sV w.heap.size rfl (.tmp 69) (.tmp 73) 66 9 (.string ⟨#[]⟩) 16 rfl Tryd.underlying66 info9 rfl (by decide) (.slice Av2 _ cv2) ws2 t rfl rfl rfl HW.out.o HW.out.b HW.out.b.size HW.out.room ?_; intro v1 w4 ho hb hg hat; have n1 := Aside0.mk (HW.out.app (m := 3) hg ho hb); clear ho hb hg hat HW; have HW := n1; clear n1))
          go_meet
          exact ⟨_, _, rfl, KA, HW⟩
        | false =>
          have KA := Aside0.mk (show ws2 = heads a0 a1 a2 a3 ++ x ++ y by
            have z := HY.out
            rw [hfm] at z
            rw [KW2.out, ← Option.some.inj (show some [] = some y from z), List.append_nil])
          go_wp2
          go_meet
          exact ⟨_, _, rfl, KA, ⟨HW.out.weak (by omega)⟩⟩
      case rest =>
      obtain ⟨v3, ws3, rfl, KW3, HV⟩ := hcut
      clear HW e0 e1 e2 e3 e4 e5 f1 f2 f3 f4
      have HW := HV
      clear HV
      obtain ⟨e0, e1, e2, e3, e4, e5, f1, f2, f3, f4⟩ := HW.out.k.cells
      obtain ⟨Av3, cv3, rfl⟩ := own_slice HW.out.o
      have hn3 : ws3.length ≤ 1099511627777 := by have := HW.out.n; omega
      have HIT := Aside0.mk (join_calls _ ws3 r wc _ HW.out.o hn3 (by rw [KW3.out]; exact HJ.out))
      clear hn3 e0 e1 e2 e3 e4 e5 f1 f2 f3 f4
      go_wp2_with (first | (go_at_call 47; refine HIT.out.mono ?_; rintro e w3 ⟨rfl, hb⟩; have n1 := Aside0.mk (below_step HW.out.b hb); clear hb HW HIT; have HW := n1; clear n1))
      go_ret
      exact ⟨rfl, HW.out⟩
end Go.Proofs.YtnegnanlbdncmaaDoor.P

namespace Go.Proofs.YtnegnanlbdncmaaDoor.P
open Go.RowKit Go.Maps Go.Proofs.YtnegnanlbdncmaaDoorW.PrintWords Go.Proofs.YtnegnanlbdncmaaDoorW.PrintLast Go.Proofs.YtnegnanlbdncmaaDoorW.PrintMore
attribute [local go_sem] max2_int min2_int max_two min_two max_three min_three max_four min_four
attribute [local go_sem ↓] Go.wp_at_zero Go.wp_at_succ
set_option linter.unusedVariables false
set_option linter.unusedSimpArgs false
theorem wsF_length (F : List S49 → Option (List UInt8)) : ∀ (l : List S49) (ws : List (List UInt8)), wsF F l = some ws → ws.length = l.length
  | [], ws, h => by
    obtain rfl := Option.some.inj (show some [] = some ws from h)
    rfl
  | x :: t, ws, h => by
    obtain ⟨s, _, h⟩ := Option.bind_eq_some_iff.1 (show (stF F x).bind (fun s => (wsF F t).bind fun r => some (s :: r)) = some ws from h)
    obtain ⟨r, hr, h⟩ := Option.bind_eq_some_iff.1 h
    obtain rfl := Option.some.inj h
    rw [List.length_cons, List.length_cons, wsF_length F t r hr]
theorem wsF_snoc (F : List S49 → Option (List UInt8)) : ∀ (l : List S49) (ws : List (List UInt8)) (k : Nat) (x : S49), wsF F l = some ws → l[k]? = some x → ∃ s, stF F x = some s ∧ ws.take (k + 1) = ws.take k ++ [s]
  | [], ws, k, x, h, hk => by simp at hk
  | y :: t, ws, k, x, h, hk => by
    obtain ⟨s, hs, h⟩ := Option.bind_eq_some_iff.1 (show (stF F y).bind (fun s => (wsF F t).bind fun r => some (s :: r)) = some ws from h)
    obtain ⟨r, hr, h⟩ := Option.bind_eq_some_iff.1 h
    obtain rfl := Option.some.inj h
    cases k with
    | zero =>
      obtain rfl := Option.some.inj (show some y = some x from hk)
      exact ⟨s, hs, rfl⟩
    | succ k =>
      obtain ⟨s', h1, h2⟩ := wsF_snoc F t r k x hr (by simpa using hk)
      exact ⟨s', h1, by rw [List.take_succ_cons, List.take_succ_cons, h2, List.cons_append]⟩
set_option maxHeartbeats 2000000 in
set_option maxRecDepth 100000 in
theorem joined_of (F : List S49 → Option (List UInt8)) (hF : TSays F) : TSays (joF F) := by
  intro A c l r w hT hC hc h
  unfold joF at h
  split at h
  case isFalse => cases h
  rename_i hlen
  obtain ⟨ws, hws, h1⟩ := Option.bind_eq_some_iff.1 h
  have hwl := wsF_length F l ws hws
  have HF := Aside0.mk hF
  have HT := Aside0.mk hT
  have HC := Aside0.mk hC
  have HWS := Aside0.mk hws
  have HJ := Aside0.mk h1
  have HLN := Aside0.mk hlen
  have HWL := Aside0.mk hwl
  have hlx : l.length ≤ 9223372036854775807 := by omega
  clear hF hT hC h h1 hws hwl hlen
  go_enter Tryd.func27, Tryd.ntmps27
  go_wp2
  go_loopg [3, 8] l.length (fun gg p3 p8 wr => ∃ (kk : Nat) (v : Value), kk ≤ l.length ∧ l.length - kk ≤ gg ∧ p3 = v ∧ p8 = .int .i64 kk ∧ Aside0 (wr.ownsRow w.heap.size 9 1 v kk (encs sV (ws.take kk))) ∧ Aside0 (Below w.heap.size w wr))
  case atStart => exact ⟨0, _, Nat.zero_le _, by omega, rfl, rfl, ⟨own_nil w _ _ _⟩, ⟨Below.refl _ _⟩⟩
  case round =>
    obtain ⟨kk, vv, hkk, hgk, rfl, rfl, HO, HB⟩ := hrel
    obtain ⟨Av, cv, rfl⟩ := own_slice HO.out
    by_cases hlt : kk < l.length
    · have hltz : decide ((kk : Int) < (l.length : Int)) = true := decide_eq_true (by omega)
      have p1 : 0 ≤ (kk : Int) := by omega
      have q1 : (kk : Int) < (l.length : Int) := by omega
      obtain ⟨ad, A4, c4, A5, c5, e1, g0, g1, g2, g3, g4, g5, hc4, H4, hc5, H5⟩ := at_T49 (Kd.C_below HC.out HB.out) (kk : Int) p1 q1
      cases e1
      rw [Int.toNat_natCast] at g0 g1 g2 g3 g4 g5
      have hki : l[kk]? = some (rd_T49 l (kk : Int)) := by
        unfold rd_T49
        rw [Int.toNat_natCast, List.getD_eq_getElem?_getD, List.getElem?_eq_getElem hlt]
        rfl
      obtain ⟨s, hs, hsn⟩ := wsF_snoc F l ws kk _ HWS.out hki
      have hcall := fun (o : Obj) => str_of F HF.out _ _ _ _ A4 c4 _ A5 c5 _ s (wr.alloc o) ((HT.out.below HB.out).below ((Below.refl _ _).alloc (Nat.le_refl _) o)) (Kd.C_below H4 ((Below.refl _ wr).alloc (Nat.le_refl _) o)) hc4 (Kd.C_below H5 ((Below.refl _ wr).alloc (Nat.le_refl _) o)) hc5 hs
      have HCL := Aside0.mk hcall
      have HSN := Aside0.mk hsn
      have hkl : (ws.take kk).length = kk := by rw [List.length_take, HWL.out]; omega
      have hrm : ((ws.take kk).length + 1) * 16 ≤ 140737488355328 := by rw [hkl]; have := HLN.out; omega
      have HKL := Aside0.mk hkl
      have HRM := Aside0.mk hrm
      have HO1 := HO.out
      have hoo : wr.ownsRow w.heap.size 9 1 (.slice Av kk cv) (ws.take kk).length (encs sV (ws.take kk)) := by rw [hkl]; exact HO1
      have HOO := Aside0.mk hoo
      clear hcall hsn hki hs H4 H5 hkl hrm HO1 hoo HO
      generalize rd_T49 l (kk : Int) = x at *
      replace p1 := eq_true p1
      replace q1 := eq_true q1
      go_wp2_with (first
        | (go_at_call 46; refine (HCL.out _).mono ?_; rintro e w3 ⟨rfl, hb⟩; unfold sV; have hb1 := below_step ((Below.refl _ wr).alloc (Nat.le_refl _) _) hb; have n1 := Aside0.mk (pw_own_below HOO.out hb1); have n2 := Aside0.mk (below_step HB.out hb1); clear hb hb1 HOO HB g0 g1 g2 g3 g4 g5 HCL; have HOO := n1; have HB := n2; clear n1 n2)
        | ((with_reducible refine gate_builtin (b := .append) (xs := #[.tmp 12, .tmp 15]) rfl ?_); at_builtin; refine print_append_of sV w.heap.size rfl (.tmp 12) (.tmp 15) 66 9 (.string ⟨#[]⟩) 16 rfl Tryd.underlying66 info9 rfl (by decide) (.slice Av kk cv) (ws.take kk) s rfl rfl rfl HOO.out HB.out HB.out.size HRM.out ?_; intro v1 w4 ho hb hg hat; have n1 := Aside0.mk ho; have n2 := Aside0.mk hb; clear ho hb hg hat HOO HB; have HOO := n1; have HB := n2; clear n1 n2; obtain ⟨A1, c1, rfl⟩ := own_slice HOO.out))
      go_roundg (l.length - (kk + 1))
      case measure => omega
      case rel =>
        refine ⟨kk + 1, _, by omega, by omega, rfl, by go_num, ⟨?_⟩, HB⟩
        have z := HOO.out
        rw [← HSN.out] at z
        rw [show (ws.take (kk + 1)).length = kk + 1 from by rw [HSN.out, List.length_append, HKL.out]; rfl] at z
        rw [show min kk ws.length = kk from by rw [HWL.out]; omega]
        exact z
    · have hltz : decide ((kk : Int) < (l.length : Int)) = false := decide_eq_false (by omega)
      obtain rfl : kk = l.length := by omega
      have he : ws.take l.length = ws := by rw [← HWL.out]; exact List.take_length ..
      have HO1 := HO.out
      rw [he, ← HWL.out] at HO1
      have HIT := Aside0.mk (join_calls _ ws r wr _ HO1 (by have := HLN.out; have := HWL.out; omega) HJ.out)
      rw [HWL.out] at HIT
      clear he HO1
      go_wp2_with (first | (go_at_call 47; refine HIT.out.mono ?_; rintro e w3 ⟨rfl, hb⟩; have n1 := Aside0.mk (below_step HB.out hb); clear hb HB HIT; have HB := n1; clear n1))
      go_ret
      exact ⟨rfl, HB.out⟩
theorem txF_says : ∀ k, TSays (txF k)
  | 0 => fun _ _ _ _ _ _ _ _ h => by cases h
  | k + 1 => joined_of (txF k) (txF_says k)
def impl_StmtsText.f (k : Nat) (l0 : List S49) : Option ByteArray := (impl_StmtsOk.f k l0).bind fun ok => if ok = true then (if l0.length = 0 then some ⟨#[45]⟩ else (txF k l0).bind fun t => some ⟨t.toArray⟩) else some ⟨#[]⟩
set_option maxHeartbeats 1000000 in
theorem impl_StmtsText.callsT (k : Nat) (A0 : Option Addr) (c0 : Nat) (l0 : List S49) (r : ByteArray) (w : World) (hT : Tab w) (hr0 : Kd.C k49 w A0 l0.length l0) (hc0 : l0.length ≤ c0) (h : impl_StmtsText.f k l0 = some r) :
    Calls Tryd.prog 11 #[.slice A0 l0.length c0] w fun e w' => e = .returned (.string r) ∧ Below w.heap.size w w' := by
  obtain ⟨ok, hok, h⟩ := Option.bind_eq_some_iff.1 h
  have HK := Aside0.mk (impl_StmtsOk.calls k A0 c0 l0 ok w hr0 hc0 hok)
  have HC := Aside0.mk hr0
  have HT := Aside0.mk hT
  clear hok hr0 hT
  cases ok with
  | false =>
    rw [if_neg (by decide)] at h
    obtain rfl := Option.some.inj h
    go_enter Tryd.func11, Tryd.ntmps11
    go_wp2_with (first | (go_at_call 10; refine HK.out.mono ?_; rintro e w1 ⟨rfl, hb⟩; have HB := Aside0.mk hb; clear hb HK))
    go_ret
    exact ⟨rfl, HB.out⟩
  | true =>
    rw [if_pos rfl] at h
    by_cases h0 : l0.length = 0
    · rw [if_pos h0] at h
      obtain rfl := Option.some.inj h
      have hz : ((l0.length : Int) == 0) = true := by simpa using h0
      clear h0
      go_enter Tryd.func11, Tryd.ntmps11
      go_wp2_with (first | (go_at_call 10; refine HK.out.mono ?_; rintro e w1 ⟨rfl, hb⟩; have HB := Aside0.mk hb; clear hb HK))
      go_ret
      exact ⟨rfl, HB.out⟩
    · rw [if_neg h0] at h
      obtain ⟨t, ht, h⟩ := Option.bind_eq_some_iff.1 h
      obtain rfl := Option.some.inj h
      have hz : ((l0.length : Int) == 0) = false := by simpa using h0
      have HF := Aside0.mk ht
      clear h0 ht h
      go_enter Tryd.func11, Tryd.ntmps11
      go_wp2_with (first
        | (go_at_call 10; refine HK.out.mono ?_; rintro e w1 ⟨rfl, hb⟩; have HB := Aside0.mk hb; clear hb HK)
        | (go_at_call 27; refine (txF_says k A0 c0 l0 t _ (HT.out.below HB.out) (Kd.C_below HC.out HB.out) hc0 HF.out).mono ?_; rintro e w2 ⟨rfl, hb⟩; unfold sV; have n1 := Aside0.mk (below_step HB.out hb); clear hb HB; have HB := n1; clear n1))
      go_ret
      exact ⟨rfl, HB.out⟩
end Go.Proofs.YtnegnanlbdncmaaDoor.P

namespace Go.Proofs.YtnegnanlbdncmaaDoor.P
open Go.RowKit Go.Proofs.YtnegnanlbdncmaaDoorW.PrintWords Go.Proofs.YtnegnanlbdncmaaDoorW.PrintLast Go.Proofs.YtnegnanlbdncmaaDoorW.PrintMore
attribute [local go_sem] max2_int min2_int max_two min_two max_three min_three max_four min_four
set_option linter.unusedVariables false
set_option linter.unusedSimpArgs false
def laws_FnExactStmtsText.f (k : Nat) (l0 : List (S47)) : Option (Bool) := (laws_szStmtS.f k l0 1048576).bind fun t379 => (if t379 < 0 then (some true) else ((laws_toStmtS.f k l0).bind fun t380 => ((spec_StmtsText.f k t380).bind fun t383 => ((laws_toStmtS.f k l0).bind fun t384 => ((impl_StmtsText.f k t384).bind fun t387 => (if t387.toList = t383.toList then ((laws_toStmtS.f k l0).bind fun t388 => ((laws_eqStmtS.f k t384 t388).bind fun t391 => (if t391 = true then (some true) else (some false)))) else (some false)))))))
set_option maxHeartbeats 8000000 in
set_option maxRecDepth 100000 in
theorem laws_FnExactStmtsText.calls (k : Nat) (A0 : Option Addr) (c0 : Nat) (l0 : List (S47)) (r : Bool) (w : World) (hT_ : Tab w) (hr0 : Kd.C k47 w A0 l0.length l0) (hc0 : l0.length ≤ c0) (h : laws_FnExactStmtsText.f k l0 = some r) (hr_ : r = true) :
    Calls Tryd.prog 4 #[.slice A0 l0.length c0] w fun e w' => e = .returned (.bool r) ∧ Below w.heap.size w w' := by
  have HT_ := Aside0.mk hT_; clear hT_; have HR0 := Aside0.mk hr0; have HC0 := Aside0.mk hc0; clear hr0 hc0; have HB := Aside0.mk (Below.refl w.heap.size w); have H : ((laws_szStmtS.f k l0 1048576).bind fun t379 => (if t379 < 0 then (some true) else ((laws_toStmtS.f k l0).bind fun t380 => ((spec_StmtsText.f k t380).bind fun t383 => ((laws_toStmtS.f k l0).bind fun t384 => ((impl_StmtsText.f k t384).bind fun t387 => (if t387.toList = t383.toList then ((laws_toStmtS.f k l0).bind fun t388 => ((laws_eqStmtS.f k t384 t388).bind fun t391 => (if t391 = true then (some true) else (some false)))) else (some false)))))))) = some r := h; clear h; replace H := Option.bind_eq_some_iff.mp H; obtain ⟨t379, A20, H⟩ := H; replace H : (if t379 < 0 then (some true) else ((laws_toStmtS.f k l0).bind fun t380 => ((spec_StmtsText.f k t380).bind fun t383 => ((laws_toStmtS.f k l0).bind fun t384 => ((impl_StmtsText.f k t384).bind fun t387 => (if t387.toList = t383.toList then ((laws_toStmtS.f k l0).bind fun t388 => ((laws_eqStmtS.f k t384 t388).bind fun t391 => (if t391 = true then (some true) else (some false)))) else (some false))))))) = some r := H; have A2 := Aside0.mk A20; clear A20
  by_cases c3 : t379 < 0
  · rw [if_pos c3] at H; have c3b0 : decide (t379 < 0) = true := decide_eq_true c3; clear c3; obtain rfl := Option.some.inj H; go_enter Tryd.func4, Tryd.ntmps4
    go_wp2_with (first | ((with_reducible refine gate_callee (f := 12) rfl ?_); refine goesM_ (some 9) Tryd.func12 #[.slice A0 l0.length c0, .int .i64 1048576] ?_; (with_reducible refine (laws_szStmtS.calls k _ _ l0 1048576 t379 _ ?side1 ?side2 A2.out).mono ?_); (case side1 => repeat (first | exact HR0.out | (with_reducible refine Kd.C_alloc ?_ _) | (with_reducible refine Kd.C_drewN ?_ _) | (with_reducible refine Kd.C_drew ?_))); (case side2 => exact HC0.out); rintro e w4 ⟨rfl, hb⟩; refine ⟨_, rfl, ?_⟩; have n0_ := Aside0.mk (below_step (q0_ HB) hb); clear HB; have HB := n0_; clear n0_; (try clear hb); (try clear hb2); (try clear hk); (try clear hi)))
    go_ret
    exact ⟨by first | rfl | (simp [errW_none, errW_some] <;> rfl) | (simp [*, errW_none, errW_some] <;> rfl), by repeat (first | (with_reducible first | exact HB.out | apply below_alloc | apply pw_below_drewN | apply below_drew1) | exact HB.out)⟩
  · rw [if_neg c3] at H; have c3b0 : decide (t379 < 0) = false := decide_eq_false c3; clear c3; replace H := Option.bind_eq_some_iff.mp H; obtain ⟨t380, A50, H⟩ := H; replace H : ((spec_StmtsText.f k t380).bind fun t383 => ((laws_toStmtS.f k l0).bind fun t384 => ((impl_StmtsText.f k t384).bind fun t387 => (if t387.toList = t383.toList then ((laws_toStmtS.f k l0).bind fun t388 => ((laws_eqStmtS.f k t384 t388).bind fun t391 => (if t391 = true then (some true) else (some false)))) else (some false))))) = some r := H; have A5 := Aside0.mk A50; clear A50; replace H := Option.bind_eq_some_iff.mp H; obtain ⟨t383, A60, H⟩ := H; replace H : ((laws_toStmtS.f k l0).bind fun t384 => ((impl_StmtsText.f k t384).bind fun t387 => (if t387.toList = t383.toList then ((laws_toStmtS.f k l0).bind fun t388 => ((laws_eqStmtS.f k t384 t388).bind fun t391 => (if t391 = true then (some true) else (some false)))) else (some false)))) = some r := H; have A6 := Aside0.mk A60; clear A60; replace H := Option.bind_eq_some_iff.mp H; obtain ⟨t384, A70, H⟩ := H; replace H : ((impl_StmtsText.f k t384).bind fun t387 => (if t387.toList = t383.toList then ((laws_toStmtS.f k l0).bind fun t388 => ((laws_eqStmtS.f k t384 t388).bind fun t391 => (if t391 = true then (some true) else (some false)))) else (some false))) = some r := H; have A7 := Aside0.mk A70; clear A70; replace H := Option.bind_eq_some_iff.mp H; obtain ⟨t387, A80, H⟩ := H; replace H : (if t387.toList = t383.toList then ((laws_toStmtS.f k l0).bind fun t388 => ((laws_eqStmtS.f k t384 t388).bind fun t391 => (if t391 = true then (some true) else (some false)))) else (some false)) = some r := H; have A8 := Aside0.mk A80; clear A80
    by_cases c9 : t387.toList = t383.toList
    · rw [if_pos c9] at H; have c9b0 : (t387.toList == t383.toList) = true := beq_iff_eq.mpr c9; have c9b1 : (t387.toList != t383.toList) = false := bne_eq_false_iff_eq.mpr c9; clear c9; replace H := Option.bind_eq_some_iff.mp H; obtain ⟨t388, A100, H⟩ := H; replace H : ((laws_eqStmtS.f k t384 t388).bind fun t391 => (if t391 = true then (some true) else (some false))) = some r := H; have A10 := Aside0.mk A100; clear A100; replace H := Option.bind_eq_some_iff.mp H; obtain ⟨t391, A110, H⟩ := H; replace H : (if t391 = true then (some true) else (some false)) = some r := H; have A11 := Aside0.mk A110; clear A110
      by_cases c12 : t391 = true
      · subst c12
        have H1 : (some true) = some r := by rw [if_pos rfl] at H; exact H
        clear H; have H := H1; clear H1; obtain rfl := Option.some.inj H; go_enter Tryd.func4, Tryd.ntmps4
        go_wp2_with (first | ((with_reducible refine gate_callee (f := 12) rfl ?_); refine goesM_ (some 9) Tryd.func12 #[.slice A0 l0.length c0, .int .i64 1048576] ?_; (with_reducible refine (laws_szStmtS.calls k _ _ l0 1048576 t379 _ ?side1 ?side2 A2.out).mono ?_); (case side1 => repeat (first | exact HR0.out | (with_reducible refine Kd.C_alloc ?_ _) | (with_reducible refine Kd.C_drewN ?_ _) | (with_reducible refine Kd.C_drew ?_))); (case side2 => exact HC0.out); rintro e w13 ⟨rfl, hb⟩; refine ⟨_, rfl, ?_⟩; have n0_ := Aside0.mk (below_step (q0_ HB) hb); clear HB; have HB := n0_; clear n0_; (try clear hb); (try clear hb2); (try clear hk); (try clear hi)) | ((with_reducible refine gate_callee (f := 14) rfl ?_); refine goesM_ (some 13) Tryd.func14 #[.slice A0 l0.length c0] ?_; (with_reducible refine (laws_toStmtS.calls k _ _ l0 t380 _ ?side1 ?side2 A5.out).mono ?_); (case side1 => repeat (first | exact (Kd.C_below HR0.out HB.out) | (with_reducible refine Kd.C_alloc ?_ _) | (with_reducible refine Kd.C_drewN ?_ _) | (with_reducible refine Kd.C_drew ?_))); (case side2 => exact HC0.out); rintro e w14 ⟨v381, rfl, ho0, hb⟩; refine ⟨_, rfl, ?_⟩; have n0_ := Aside0.mk (Kd.R_lower ho0 (below_size (q0_ HB))); have n1_ := Aside0.mk (below_step (q0_ HB) hb); clear HB; have HO382 := n0_; have HB := n1_; clear n0_ n1_; (try clear hb); (try clear hb2); (try clear hk); (try clear hi); (try clear ho0); obtain ⟨Ao15, co15, eo15⟩ := Kd.R_slice HO382.out; subst eo15) | ((with_reducible refine gate_callee (f := 13) rfl ?_); refine goesM_ (some 14) Tryd.func13 #[.slice Ao15 t380.length co15] ?_; (with_reducible refine (spec_StmtsText.calls k _ _ t380 t383 _ ?side1 ?side2 A6.out).mono ?_); (case side1 => repeat (first | exact (Kd.R_reads' HO382.out).2.2 | (with_reducible refine Kd.C_alloc ?_ _) | (with_reducible refine Kd.C_drewN ?_ _) | (with_reducible refine Kd.C_drew ?_))); (case side2 => exact (Kd.R_reads' HO382.out).2.1); rintro e w16 ⟨rfl, hb⟩; refine ⟨_, rfl, ?_⟩; have n0_ := Aside0.mk (Kd.R_below (q9_ HO382) hb); have n1_ := Aside0.mk (below_step (q0_ HB) hb); clear HO382; clear HB; have HO382 := n0_; have HB := n1_; clear n0_ n1_; (try clear hb); (try clear hb2); (try clear hk); (try clear hi)) | ((with_reducible refine gate_callee (f := 14) rfl ?_); refine goesM_ (some 16) Tryd.func14 #[.slice A0 l0.length c0] ?_; (with_reducible refine (laws_toStmtS.calls k _ _ l0 t384 _ ?side1 ?side2 A7.out).mono ?_); (case side1 => repeat (first | exact (Kd.C_below HR0.out HB.out) | (with_reducible refine Kd.C_alloc ?_ _) | (with_reducible refine Kd.C_drewN ?_ _) | (with_reducible refine Kd.C_drew ?_))); (case side2 => exact HC0.out); rintro e w17 ⟨v385, rfl, ho0, hb⟩; refine ⟨_, rfl, ?_⟩; have n0_ := Aside0.mk (Kd.R_elder' (q9_ HO382) (Kd.R_base ho0) hb); have n1_ := Aside0.mk (Kd.R_lower (Kd.R_new' ho0 (Kd.R_lt (q9_ HO382))) (below_size (q0_ HB))); have n2_ := Aside0.mk (below_step (q0_ HB) hb); clear HO382; clear HB; have HO382 := n0_; have HO386 := n1_; have HB := n2_; clear n0_ n1_ n2_; (try clear hb); (try clear hb2); (try clear hk); (try clear hi); (try clear ho0); obtain ⟨Ao18, co18, eo18⟩ := Kd.R_slice HO386.out; subst eo18) | ((with_reducible refine gate_callee (f := 11) rfl ?_); refine goesM_ (some 18) Tryd.func11 #[.slice Ao18 t384.length co18] ?_; (with_reducible refine (impl_StmtsText.callsT k _ _ t384 t387 _ ?sideT ?side1 ?side2 A8.out).mono ?_); (case sideT => exact HT_.out.below (by repeat (first | exact HB.out | (with_reducible apply below_alloc) | (with_reducible apply pw_below_drewN) | (with_reducible apply below_drew1)))); (case side1 => repeat (first | exact (Kd.R_reads' HO386.out).2.2 | (with_reducible refine Kd.C_alloc ?_ _) | (with_reducible refine Kd.C_drewN ?_ _) | (with_reducible refine Kd.C_drew ?_))); (case side2 => exact (Kd.R_reads' HO386.out).2.1); rintro e w19 ⟨rfl, hb⟩; refine ⟨_, rfl, ?_⟩; have n0_ := Aside0.mk (Kd.R_below (q9_ HO382) hb); have n1_ := Aside0.mk (Kd.R_below (q9_ HO386) hb); have n2_ := Aside0.mk (below_step (q0_ HB) hb); clear HO382; clear HO386; clear HB; have HO382 := n0_; have HO386 := n1_; have HB := n2_; clear n0_ n1_ n2_; (try clear hb); (try clear hb2); (try clear hk); (try clear hi)) | ((with_reducible refine gate_callee (f := 14) rfl ?_); refine goesM_ (some 24) Tryd.func14 #[.slice A0 l0.length c0] ?_; (with_reducible refine (laws_toStmtS.calls k _ _ l0 t388 _ ?side1 ?side2 A10.out).mono ?_); (case side1 => repeat (first | exact (Kd.C_below HR0.out HB.out) | (with_reducible refine Kd.C_alloc ?_ _) | (with_reducible refine Kd.C_drewN ?_ _) | (with_reducible refine Kd.C_drew ?_))); (case side2 => exact HC0.out); rintro e w20 ⟨v389, rfl, ho0, hb⟩; refine ⟨_, rfl, ?_⟩; have n0_ := Aside0.mk (Kd.R_elder' (q9_ HO382) (Kd.R_base ho0) hb); have n1_ := Aside0.mk (Kd.R_elder' (q9_ HO386) (Kd.R_base ho0) hb); have n2_ := Aside0.mk (Kd.R_lower (Kd.R_new' (Kd.R_new' ho0 (Kd.R_lt (q9_ HO382))) (Kd.R_lt (q9_ HO386))) (below_size (q0_ HB))); have n3_ := Aside0.mk (below_step (q0_ HB) hb); clear HO382; clear HO386; clear HB; have HO382 := n0_; have HO386 := n1_; have HO390 := n2_; have HB := n3_; clear n0_ n1_ n2_ n3_; (try clear hb); (try clear hb2); (try clear hk); (try clear hi); (try clear ho0); obtain ⟨Ao21, co21, eo21⟩ := Kd.R_slice HO390.out; subst eo21) | ((with_reducible refine gate_callee (f := 15) rfl ?_); refine goesM_ (some 25) Tryd.func15 #[.slice Ao18 t384.length co18, .slice Ao21 t388.length co21] ?_; (with_reducible refine (laws_eqStmtS.calls k _ _ t384 _ _ t388 true _ ?side1 ?side2 ?side3 ?side4 A11.out).mono ?_); (case side1 => repeat (first | exact (Kd.R_reads' HO386.out).2.2 | (with_reducible refine Kd.C_alloc ?_ _) | (with_reducible refine Kd.C_drewN ?_ _) | (with_reducible refine Kd.C_drew ?_))); (case side2 => exact (Kd.R_reads' HO386.out).2.1); (case side3 => repeat (first | exact (Kd.R_reads' HO390.out).2.2 | (with_reducible refine Kd.C_alloc ?_ _) | (with_reducible refine Kd.C_drewN ?_ _) | (with_reducible refine Kd.C_drew ?_))); (case side4 => exact (Kd.R_reads' HO390.out).2.1); rintro e w22 ⟨rfl, hb⟩; refine ⟨_, rfl, ?_⟩; have n0_ := Aside0.mk (Kd.R_below (q9_ HO382) hb); have n1_ := Aside0.mk (Kd.R_below (q9_ HO386) hb); have n2_ := Aside0.mk (Kd.R_below (q9_ HO390) hb); have n3_ := Aside0.mk (below_step (q0_ HB) hb); clear HO382; clear HO386; clear HO390; clear HB; have HO382 := n0_; have HO386 := n1_; have HO390 := n2_; have HB := n3_; clear n0_ n1_ n2_ n3_; (try clear hb); (try clear hb2); (try clear hk); (try clear hi)))
        go_ret
        exact ⟨by first | rfl | (simp [errW_none, errW_some] <;> rfl) | (simp [*, errW_none, errW_some] <;> rfl), by repeat (first | (with_reducible first | exact HB.out | apply below_alloc | apply pw_below_drewN | apply below_drew1) | exact HB.out)⟩
      · replace c12 := Bool.eq_false_iff.mpr c12; subst c12
        have H1 : (some false) = some r := by rw [if_neg (show ¬ (false = true) by decide)] at H; exact H
        rw [hr_] at H1
        exact absurd H1 (by simp)
    · rw [if_neg c9, hr_] at H
      exact absurd H (by simp)
def laws_FnExactStmtsText.Pure : Prop := ∀ (l0 : List (S47)), (∃ (w : World) (A : Option Addr), Kd.C (k47) w A l0.length l0) → ∃ k, laws_FnExactStmtsText.f k l0 = some true
end Go.Proofs.YtnegnanlbdncmaaDoor.P

namespace Go.Proofs.YtnegnanlbdncmaaDoor.P
open Go.RowKit Go.Proofs.YtnegnanlbdncmaaDoorW.PrintWords Go.Proofs.YtnegnanlbdncmaaDoorW.PrintLast Go.Proofs.YtnegnanlbdncmaaDoorW.PrintMore
set_option linter.unusedVariables false
set_option linter.unusedSimpArgs false
theorem cnt_append (d : Nat) (a b : List S49) : cntL (d + 1) (a ++ b) = cntL (d + 1) a + cntL (d + 1) b := by
  show (List.map _ (a ++ b)).sum = _
  rw [List.map_append, List.sum_append]
  rfl
theorem cnt_cons (d : Nat) (x : S49) (t : List S49) : cntL (d + 1) (x :: t) = (1 + cntL d x.f4 + cntL d x.f5) + cntL (d + 1) t := by
  show (List.map _ (x :: t)).sum = _
  rw [List.map_cons, List.sum_cons]
  rfl
theorem cnt_len (d : Nat) : ∀ l : List S49, l.length ≤ cntL (d + 1) l
  | [] => Nat.zero_le _
  | x :: t => by
    have := cnt_len d t
    rw [cnt_cons, List.length_cons]
    omega
def brT (T : List S49 → List UInt8) (l : List S49) : List UInt8 := if l.length = 0 then [91, 32, 93] else [91, 32] ++ T l ++ [32, 93]
def optT (c : Bool) (T : List S49 → List UInt8) (l : List S49) : List (List UInt8) := if c = true then [brT T l] else []
def stT (T : List S49 → List UInt8) (x : S49) : List UInt8 := Lib.join (heads x.f0 x.f1 x.f2 x.f3 ++ optT (fmX x.f0) T x.f4 ++ optT (fmY x.f0) T x.f5) [32]
def txT : Nat → List S49 → List UInt8
  | 0, _ => []
  | d + 1, l => Lib.join (l.map (stT (txT d))) [32]
def okD (d : Nat) (l : List S49) : Prop := ∀ x ∈ l, ∃ m, okS d x m = true
theorem okD_kids {d : Nat} {l : List S49} (h : okD (d + 1) l) {x : S49} (hx : x ∈ l) : okD d x.f4 ∧ okD d x.f5 := by
  obtain ⟨m, hm⟩ := h x hx
  obtain ⟨m', h4, h5⟩ := okS_kids2 hm
  exact ⟨fun y hy => ⟨m', h4 y hy⟩, fun y hy => ⟨m', h5 y hy⟩⟩
theorem okN_of {d : Nat} {x : S49} {m : Int} (h : okS (d + 1) x m = true) : okN x.f0 x.f1 x.f2 x.f3 := by
  unfold okS at h
  unfold okN i64
  by_cases c6 : x.f0 = 6
  · rw [if_pos c6] at h
    simp only [inR, Bool.and_eq_true, decide_eq_true_eq] at h
    omega
  rw [if_neg c6] at h
  by_cases c5 : x.f5.length = 0
  · rw [if_pos c5] at h
    by_cases c7 : x.f0 = 7
    · rw [if_pos c7] at h
      simp only [inR, Bool.and_eq_true, decide_eq_true_eq] at h
      omega
    rw [if_neg c7] at h
    by_cases c8 : x.f0 = 8
    · rw [if_pos c8] at h
      simp only [inR, Bool.and_eq_true, decide_eq_true_eq] at h
      omega
    rw [if_neg c8] at h
    rw [Bool.and_eq_true] at h
    have h2 := h.2
    unfold leafOk at h2
    repeat' split at h2
    all_goals first
      | (simp only [inR, numR, Bool.and_eq_true, decide_eq_true_eq] at h2; omega)
      | cases h2
  · rw [if_neg c5] at h
    cases h
theorem fmS_len (n : Int) : (fmS n).data.toList.length ≤ 6 := by
  unfold fmS
  repeat' split
  all_goals decide
theorem opW_len (n : Int) : (opW n).length ≤ 4 := by
  unfold opW
  repeat' split
  all_goals decide
theorem join_len : ∀ ws : List (List UInt8), (Lib.join ws [32]).length ≤ (ws.map fun w => w.length + 1).sum
  | [] => by simp [Lib.join_nil]
  | [x] => by simp [Lib.join_one]
  | x :: y :: t => by
    have := join_len (y :: t)
    rw [Lib.join_cons] at this ⊢
    simp only [Lib.joinTail, List.map_cons, List.flatten_cons, List.length_append, List.sum_cons, List.length_cons, List.length_nil] at this ⊢
    omega
theorem brT_len (T : List S49 → List UInt8) (l : List S49) : (brT T l).length ≤ 4 + (T l).length := by
  unfold brT
  split
  · simp
    omega
  · simp
    omega
theorem optT_len (c : Bool) (T : List S49 → List UInt8) (l : List S49) : ((optT c T l).map fun w => w.length + 1).sum ≤ 5 + (T l).length := by
  unfold optT
  split
  · have := brT_len T l
    simp
    omega
  · simp
theorem heads_len {a0 a1 a2 a3 : Int} (h : okN a0 a1 a2 a3) : ((heads a0 a1 a2 a3).map fun w => w.length + 1).sum ≤ 73 := by
  have i1 := Lib.itoa_length_le a1 h.1.1 h.1.2
  have i2 := Lib.itoa_length_le a2 h.2.1.1 h.2.1.2
  have i3 := Lib.itoa_length_le a3 h.2.2.1.1 h.2.2.1.2
  have i0 : (head0 a0 a3).length ≤ 6 := by
    unfold head0
    split
    · have := opW_len a3
      omega
    · exact fmS_len a0
  unfold heads
  simp only [List.map_append, List.sum_append, List.map_cons, List.map_nil, List.sum_cons, List.sum_nil]
  have e : ∀ (c : Prop) [Decidable c] (n : Int), ((if c then [Lib.itoa n] else []).map fun w : List UInt8 => w.length + 1).sum ≤ (Lib.itoa n).length + 1 := fun c _ n => by
    split <;> simp
  have e1 := e (0 < fmA a0) a1
  have e2 := e (0 < fmB a0) a2
  have e3 := e (a0 = 1) a3
  omega
theorem stT_len {T : List S49 → List UInt8} {x : S49} (h : okN x.f0 x.f1 x.f2 x.f3) : (stT T x).length ≤ 83 + (T x.f4).length + (T x.f5).length := by
  unfold stT
  have h1 := join_len (heads x.f0 x.f1 x.f2 x.f3 ++ optT (fmX x.f0) T x.f4 ++ optT (fmY x.f0) T x.f5)
  rw [List.map_append, List.map_append, List.sum_append, List.sum_append] at h1
  have h2 := heads_len h
  have h3 := optT_len (fmX x.f0) T x.f4
  have h4 := optT_len (fmY x.f0) T x.f5
  omega
theorem txT_len : ∀ (d : Nat) (l : List S49), okD d l → (txT d l).length ≤ 120 * cntL d l
  | 0, _, _ => Nat.zero_le _
  | d + 1, l, h => by
    refine Nat.le_trans (join_len _) ?_
    rw [List.map_map]
    have key : ∀ t : List S49, (∀ x ∈ t, x ∈ l) → (t.map ((fun w : List UInt8 => w.length + 1) ∘ stT (txT d))).sum ≤ 120 * cntL (d + 1) t := by
      intro t
      induction t with
      | nil => intro _; simp
      | cons x t ih =>
        intro hm
        have i := ih fun y hy => hm y (List.mem_cons_of_mem _ hy)
        have hx := hm x (List.mem_cons_self ..)
        obtain ⟨m, hx1⟩ := h x hx
        have s := stT_len (T := txT d) (okN_of hx1)
        have k4 := txT_len d x.f4 (okD_kids h hx).1
        have k5 := txT_len d x.f5 (okD_kids h hx).2
        rw [List.map_cons, List.sum_cons, cnt_cons]
        show (stT (txT d) x).length + 1 + _ ≤ _
        omega
    exact key l fun _ h => h
theorem limT_ok {l : List UInt8} (h : l.length ≤ 1099511627776) : limT l = some l := if_pos h
theorem brF_ev {d : Nat} {l : List S49} (h : Ev (fun k => txF k l) (txT d l)) (hb : (txT d l).length ≤ 1000000000000) : Ev (fun k => brF (txF k) l) (brT (txT d) l) := by
  unfold brF brT
  by_cases c : l.length = 0
  · simp only [c, if_true]
    exact Evs.some_ _
  · simp only [c, if_false]
    exact Evs.bind h (Evs.const (limT_ok (by simp; omega)))
theorem optF_ev {d : Nat} {l : List S49} (c : Bool) (h : Ev (fun k => txF k l) (txT d l)) (hb : (txT d l).length ≤ 1000000000000) : Ev (fun k => optF c (txF k) l) (optT c (txT d) l) := by
  unfold optF optT
  cases c with
  | false => exact Evs.some_ _
  | true => exact Evs.bind (brF_ev h hb) (Evs.some_ _)
theorem tx_ev : ∀ (d : Nat) (l : List S49), okD d l → cntL d l ≤ 1000000 → Ev (fun k => txF k l) (txT d l)
  | 0, l, h, _ => by
    cases l with
    | nil => exact Evs.succ (fun k => by simp only [txF]; rfl) (Evs.const rfl)
    | cons x t =>
      obtain ⟨m, hm⟩ := h x (List.mem_cons_self ..)
      cases hm
  | d + 1, l, h, hc => by
    have hl := cnt_len d l
    have hb := txT_len (d + 1) l h
    refine Evs.succ (fun k => by simp only [txF]; rfl) ?_
    unfold joF
    have key : ∀ t : List S49, (∀ x ∈ t, x ∈ l) → cntL (d + 1) t ≤ 1000000 → Ev (fun k => wsF (txF k) t) (t.map (stT (txT d))) := by
      intro t
      induction t with
      | nil => intro _ _; exact Evs.some_ _
      | cons x t ih =>
        intro hm hct
        rw [cnt_cons] at hct
        have hx := hm x (List.mem_cons_self ..)
        obtain ⟨m, hx1⟩ := h x hx
        have hk := okD_kids h hx
        have q4 := tx_ev d x.f4 hk.1 (by omega)
        have q5 := tx_ev d x.f5 hk.2 (by omega)
        have k4 := txT_len d x.f4 hk.1
        have k5 := txT_len d x.f5 hk.2
        have s := stT_len (T := txT d) (okN_of hx1)
        have st : Ev (fun k => stF (txF k) x) (stT (txT d) x) := by
          unfold stF stB
          exact Evs.ite_pos (okN_of hx1) (Evs.bind (optF_ev _ q4 (by omega)) (Evs.bind (optF_ev _ q5 (by omega)) (Evs.const (limT_ok (by show (stT (txT d) x).length ≤ _; omega)))))
        show Ev (fun k => (stF (txF k) x).bind fun s => (wsF (txF k) t).bind fun r => some (s :: r)) _
        exact Evs.bind st (Evs.bind (ih (fun y hy => hm y (List.mem_cons_of_mem _ hy)) (by omega)) (Evs.some_ _))
    exact Evs.ite_pos (by omega) (Evs.bind (key l (fun _ h => h) hc) (Evs.const (limT_ok (by show (txT (d + 1) l).length ≤ _; omega))))
theorem okD_ok {l : List S49} (h : okLst l = true) : okD 3 l := fun x hx => by
  have := okLst_list h
  unfold okList at this
  rw [List.all_eq_true] at this
  exact ⟨_, this x hx⟩
def txtV (l : List S49) : List UInt8 := if okLst l = true then (if l.length = 0 then [45] else txT 3 l) else []
theorem implText {l : List S49} (hc : okLst l = true → cntL 3 l ≤ 1000000) : Ev (fun k => impl_StmtsText.f k l) ⟨(txtV l).toArray⟩ := by
  unfold impl_StmtsText.f txtV
  refine Evs.bind (implOk l) ?_
  cases h : okLst l with
  | false => exact Evs.ite_neg (by simp) (Evs.some_ _)
  | true =>
    refine Evs.ite_pos rfl ?_
    by_cases c : l.length = 0
    · simp only [c, if_true]
      exact Evs.some_ _
    · simp only [c, if_false]
      exact Evs.bind (tx_ev 3 l (okD_ok h) (hc h)) (Evs.some_ _)
def bA (l : List UInt8) : ByteArray := ⟨l.toArray⟩
theorem bA_mk (l : List UInt8) : (⟨l.toArray⟩ : ByteArray) = bA l := rfl
theorem bA_app (a b : List UInt8) : bA a ++ bA b = bA (a ++ b) := by
  apply ByteArray.ext
  simp [bA]
theorem bA_size (l : List UInt8) : (bA l).size = l.length := by simp [bA, ByteArray.size]
theorem bA_list (l : List UInt8) : (bA l).toList = l := by
  rw [Lib.toList_data]
  rfl
theorem some_eq {α : Type} {a b : α} (h : a = b) : Ev (fun _ => some a) b := h ▸ Evs.some_ a
theorem str_one (n : Int) (h0 : 0 ≤ n) (h1 : n ≤ 9) : strOfNums [wrap64 (48 + n) % 256] = bA [UInt8.ofNat (48 + n.toNat)] := by
  rcases (by omega : n = 0 ∨ n = 1 ∨ n = 2 ∨ n = 3 ∨ n = 4 ∨ n = 5 ∨ n = 6 ∨ n = 7 ∨ n = 8 ∨ n = 9) with rfl | rfl | rfl | rfl | rfl | rfl | rfl | rfl | rfl | rfl <;> decide +kernel
theorem dec_loop : ∀ (u : Nat) (out : List UInt8), u ≤ 9223372036854775807 → out.length + u ≤ 9223372036854775806 → Ev (fun k => spec_l11Dec.l0 k (u : Int) (bA out)) (bA (Lib.decDigits u ++ out)) := by
  intro u
  induction u using Nat.strongRecOn with
  | _ u ih =>
  intro out hu ho
  refine Evs.succ (fun k => by simp only [spec_l11Dec.l0]; rfl) ?_
  by_cases c : (u : Int) > 9
  · refine Evs.ite_pos c (Evs.bind (Evs.some_ _) ?_)
    have e1 : Int.tmod (u : Int) 10 = ((u % 10 : Nat) : Int) := by rw [Int.tmod_eq_emod_of_nonneg (by omega)]; omega
    have e2 : wrap64 (Int.tdiv (u : Int) 10) = ((u / 10 : Nat) : Int) := by rw [Int.tdiv_eq_ediv_of_nonneg (by omega), wrap_id (by omega) (by omega)]; omega
    rw [e1, e2, str_one _ (by omega) (by omega), Int.toNat_natCast]
    refine Evs.ite_pos (by rw [bA_size, bA_size]; simp; omega) ?_
    rw [bA_app]
    have q := ih (u / 10) (by omega) ([UInt8.ofNat (48 + u % 10)] ++ out) (by omega) (by simp; omega)
    have e3 : Lib.decDigits u = Lib.decDigits (u / 10) ++ [UInt8.ofNat (48 + u % 10)] := by
      conv => lhs; unfold Lib.decDigits
      rw [dif_neg (by omega)]
    rw [e3, List.append_assoc]
    exact q
  · refine Evs.ite_neg c (Evs.bind (Evs.some_ _) ?_)
    rw [str_one _ (by omega) (by omega), Int.toNat_natCast]
    refine Evs.ite_pos (by rw [bA_size, bA_size]; simp; omega) ?_
    rw [bA_app]
    have e3 : Lib.decDigits u = [UInt8.ofNat (48 + u)] := by
      unfold Lib.decDigits
      rw [dif_pos (by omega)]
    rw [e3]
    exact Evs.some_ _
theorem dec_pos (n : Int) (h0 : 0 ≤ n) (h1 : n ≤ 9000000000000000000) : Ev (fun k => spec_l11Dec.f k n) (bA (Lib.decDigits n.toNat)) := by
  refine Evs.succ (fun k => by simp only [spec_l11Dec.f]; rfl) (Evs.ite_neg (by omega) (Evs.ite_neg (by omega) ?_))
  have q := dec_loop n.toNat [] (by omega) (by simp; omega)
  rw [List.append_nil, show ((n.toNat : Nat) : Int) = n by omega] at q
  exact q
theorem dec_ev (n : Int) (h0 : -9000000000000000000 ≤ n) (h1 : n ≤ 9000000000000000000) : Ev (fun k => spec_l11Dec.f k n) (bA (Lib.itoa n)) := by
  unfold Lib.itoa
  by_cases c : n < 0
  · rw [if_pos c]
    refine Evs.succ (fun k => by simp only [spec_l11Dec.f]; rfl) (Evs.ite_neg (by omega) (Evs.ite_pos c ?_))
    have e : wrap64 (-n) = -n := wrap_id (by omega) (by omega)
    rw [e]
    have q := dec_pos (-n) (by omega) (by omega)
    have hl := Lib.itoa_length_le (-n) (by omega) (by omega)
    unfold Lib.itoa at hl
    rw [if_neg (by omega)] at hl
    refine Evs.bind q (Evs.ite_pos (by rw [bA_size]; omega) ?_)
    rw [bA_mk, bA_app, show n.natAbs = (-n).toNat by omega]
    exact Evs.some_ _
  · rw [if_neg c]
    exact dec_pos n (by omega) h1
theorem op_ev (n : Int) (h0 : 0 ≤ n) (h1 : n < 6) : spec_l2Op.f n = some (bA (opW n)) := by
  rcases (by omega : n = 0 ∨ n = 1 ∨ n = 2 ∨ n = 3 ∨ n = 4 ∨ n = 5) with rfl | rfl | rfl | rfl | rfl | rfl <;> rfl
def spT : Nat → List S49 → List UInt8
  | 0, _ => []
  | d + 1, l => (l.map fun x => stT (txT d) x ++ [32]).flatten
theorem spT_tx (d : Nat) (l : List S49) (h : l ≠ []) : spT (d + 1) l = txT (d + 1) l ++ [32] := by
  obtain ⟨x, t, rfl⟩ := List.exists_cons_of_ne_nil h
  show ((x :: t).map fun x => stT (txT d) x ++ [32]).flatten = Lib.join ((x :: t).map (stT (txT d))) [32] ++ [32]
  clear h
  induction t generalizing x with
  | nil => simp [Lib.join_one]
  | cons y t ih =>
    have q := ih y
    rw [List.map_cons, List.flatten_cons, q, List.map_cons, List.map_cons, Lib.join_cons, Lib.join_cons]
    simp [Lib.joinTail, List.append_assoc]
theorem spT_nil (d : Nat) : spT d [] = [] := by cases d <;> rfl
theorem brT_sp (d : Nat) (l : List S49) (h : okD d l) : brT (txT d) l = [91, 32] ++ spT d l ++ [93] := by
  unfold brT
  by_cases c : l.length = 0
  · rw [if_pos c, List.eq_nil_of_length_eq_zero c, spT_nil]
    rfl
  · rw [if_neg c]
    cases d with
    | zero =>
      obtain ⟨x, t, rfl⟩ := List.exists_cons_of_ne_nil (show l ≠ [] from fun e => c (by rw [e]; rfl))
      obtain ⟨m, hm⟩ := h x (List.mem_cons_self ..)
      cases hm
    | succ d =>
      rw [spT_tx d l (fun e => c (by rw [e]; rfl))]
      simp [List.append_assoc]
theorem spT_len {d : Nat} {l : List S49} (h : okD d l) : (spT d l).length ≤ 120 * cntL d l + 1 := by
  by_cases c : l = []
  · rw [c, spT_nil]
    exact Nat.zero_le _
  · cases d with
    | zero => exact Nat.zero_le _
    | succ d =>
      have := txT_len (d + 1) l h
      rw [spT_tx d l c, List.length_append]
      simp
      omega
theorem kinds {d : Nat} {x : S49} {m : Int} (h : okS (d + 1) x m = true) :
    (x.f0 = 1 ∨ x.f0 = 2 ∨ x.f0 = 3 ∨ x.f0 = 4 ∨ x.f0 = 5 ∨ x.f0 = 6 ∨ x.f0 = 7 ∨ x.f0 = 8 ∨ x.f0 = 9 ∨ x.f0 = 10 ∨ x.f0 = 11) ∧ (-9000000000000000000 ≤ x.f1 ∧ x.f1 ≤ 9000000000000000000) ∧ (-9000000000000000000 ≤ x.f2 ∧ x.f2 ≤ 9000000000000000000) ∧ (-9000000000000000000 ≤ x.f3 ∧ x.f3 ≤ 9000000000000000000) := by
  unfold okS at h
  by_cases c6 : x.f0 = 6
  · rw [if_pos c6] at h
    simp only [inR, Bool.and_eq_true, decide_eq_true_eq] at h
    omega
  rw [if_neg c6] at h
  by_cases c5 : x.f5.length = 0
  · rw [if_pos c5] at h
    by_cases c7 : x.f0 = 7
    · rw [if_pos c7] at h
      simp only [inR, Bool.and_eq_true, decide_eq_true_eq] at h
      omega
    rw [if_neg c7] at h
    by_cases c8 : x.f0 = 8
    · rw [if_pos c8] at h
      simp only [inR, Bool.and_eq_true, decide_eq_true_eq] at h
      omega
    rw [if_neg c8] at h
    rw [Bool.and_eq_true] at h
    have h2 := h.2
    unfold leafOk at h2
    repeat' split at h2
    all_goals first
      | (simp only [inR, numR, Bool.and_eq_true, decide_eq_true_eq] at h2; omega)
      | cases h2
  · rw [if_neg c5] at h
    cases h
theorem itoa_le (n : Int) (h0 : -9000000000000000000 ≤ n) (h1 : n ≤ 9000000000000000000) : (Lib.itoa n).length ≤ 21 := Lib.itoa_length_le n (by omega) (by omega)
set_option maxHeartbeats 2000000 in
theorem word_ev {d : Nat} {x : S49} {m : Int} (h : okS (d + 1) x m = true) (b4 : (spT d x.f4).length ≤ 1000000000) (b5 : (spT d x.f5).length ≤ 1000000000) (k4 : okD d x.f4) (k5 : okD d x.f5)
    (h4 : Ev (fun k => spec_l2Text.f k x.f4) (bA (spT d x.f4))) (h5 : Ev (fun k => spec_l2Text.f k x.f5) (bA (spT d x.f5))) : Ev (fun k => spec_l2Word.f k x.f0 x.f1 x.f2 x.f3 x.f4 x.f5) (bA (stT (txT d) x)) := by
  obtain ⟨hk, h1, h2, h3⟩ := kinds h
  have d1 := dec_ev x.f1 h1.1 h1.2
  have d2 := dec_ev x.f2 h2.1 h2.2
  have d3 := dec_ev x.f3 h3.1 h3.2
  have l1 := itoa_le x.f1 h1.1 h1.2
  have l2 := itoa_le x.f2 h2.1 h2.2
  have l3 := itoa_le x.f3 h3.1 h3.2
  have hop := (okN_of h).2.2.2
  have e4 := brT_sp d x.f4 k4
  have e5 := brT_sp d x.f5 k5
  refine Evs.succ (fun k => by simp only [spec_l2Word.f]; rfl) (Evs.bind d1 (Evs.bind d2 ?_))
  unfold stT heads head0 optT
  rw [e4, e5]
  clear h1 h2 h3 d1 d2 h e4 e5
  generalize spT d x.f4 = s4 at *
  generalize spT d x.f5 = s5 at *
  generalize Lib.itoa x.f1 = i1 at *
  generalize Lib.itoa x.f2 = i2 at *
  have o3 : x.f0 = 2 → spec_l2Op.f x.f3 = some (bA (opW x.f3)) := fun e => op_ev _ (hop e).1 (hop e).2
  have o4 := opW_len x.f3
  generalize Lib.itoa x.f3 = i3 at *
  generalize opW x.f3 = o at *
  rcases hk with e | e | e | e | e | e | e | e | e | e | e
  all_goals rw [e]
  · refine Evs.ite_pos rfl (Evs.ite_pos ?_ (Evs.ite_pos ?_ (Evs.bind d3 (Evs.ite_pos ?_ (some_eq ?_)))))
    all_goals simp only [bA_mk, bA_app, bA_size]
    · first | omega | (simp; omega)
    · first | omega | (simp; omega)
    · first | omega | (simp; omega)
    · first | rfl | (congr 1; simp [fmA, fmB, fmX, fmY, fmS, Lib.join_cons, Lib.joinTail])
  · refine Evs.ite_neg (by decide) (Evs.ite_pos rfl (Evs.bind0 (o3 e) (Evs.ite_pos ?_ (Evs.ite_pos ?_ (Evs.ite_pos ?_ (Evs.ite_pos ?_ (some_eq ?_)))))))
    all_goals simp only [bA_mk, bA_app, bA_size]
    · first | omega | (simp; omega)
    · first | omega | (simp; omega)
    · first | omega | (simp; omega)
    · first | omega | (simp; omega)
    · first | rfl | (congr 1; simp [fmA, fmB, fmX, fmY, fmS, Lib.join_cons, Lib.joinTail])
  · refine Evs.ite_neg (by decide) (Evs.ite_neg (by decide) (Evs.ite_pos rfl (Evs.ite_pos ?_ (Evs.ite_pos ?_ (Evs.ite_pos ?_ (some_eq ?_))))))
    all_goals simp only [bA_mk, bA_app, bA_size]
    · first | omega | (simp; omega)
    · first | omega | (simp; omega)
    · first | omega | (simp; omega)
    · first | rfl | (congr 1; simp [fmA, fmB, fmX, fmY, fmS, Lib.join_cons, Lib.joinTail])
  · refine Evs.ite_neg (by decide) (Evs.ite_neg (by decide) (Evs.ite_neg (by decide) (Evs.ite_pos rfl (Evs.ite_pos ?_ (Evs.ite_pos ?_ (Evs.ite_pos ?_ (some_eq ?_)))))))
    all_goals simp only [bA_mk, bA_app, bA_size]
    · first | omega | (simp; omega)
    · first | omega | (simp; omega)
    · first | omega | (simp; omega)
    · first | rfl | (congr 1; simp [fmA, fmB, fmX, fmY, fmS, Lib.join_cons, Lib.joinTail])
  · refine Evs.ite_neg (by decide) (Evs.ite_neg (by decide) (Evs.ite_neg (by decide) (Evs.ite_neg (by decide) (Evs.ite_pos rfl (Evs.ite_pos ?_ (some_eq ?_))))))
    all_goals simp only [bA_mk, bA_app, bA_size]
    · first | omega | (simp; omega)
    · first | rfl | (congr 1; simp [fmA, fmB, fmX, fmY, fmS, Lib.join_cons, Lib.joinTail])
  · refine Evs.ite_neg (by decide) (Evs.ite_neg (by decide) (Evs.ite_neg (by decide) (Evs.ite_neg (by decide) (Evs.ite_neg (by decide) (Evs.ite_pos rfl (Evs.ite_pos ?_ (Evs.ite_pos ?_ (Evs.bind h4 (Evs.ite_pos ?_ (Evs.ite_pos ?_ (Evs.bind h5 (Evs.ite_pos ?_ (Evs.ite_pos ?_ (some_eq ?_))))))))))))))
    all_goals simp only [bA_mk, bA_app, bA_size]
    · first | omega | (simp; omega)
    · first | omega | (simp; omega)
    · first | omega | (simp; omega)
    · first | omega | (simp; omega)
    · first | omega | (simp; omega)
    · first | omega | (simp; omega)
    · first | rfl | (congr 1; simp [fmA, fmB, fmX, fmY, fmS, Lib.join_cons, Lib.joinTail])
  · refine Evs.ite_neg (by decide) (Evs.ite_neg (by decide) (Evs.ite_neg (by decide) (Evs.ite_neg (by decide) (Evs.ite_neg (by decide) (Evs.ite_neg (by decide) (Evs.ite_pos rfl (Evs.ite_pos ?_ (Evs.ite_pos ?_ (Evs.bind h4 (Evs.ite_pos ?_ (Evs.ite_pos ?_ (some_eq ?_))))))))))))
    all_goals simp only [bA_mk, bA_app, bA_size]
    · first | omega | (simp; omega)
    · first | omega | (simp; omega)
    · first | omega | (simp; omega)
    · first | omega | (simp; omega)
    · first | rfl | (congr 1; simp [fmA, fmB, fmX, fmY, fmS, Lib.join_cons, Lib.joinTail])
  · refine Evs.ite_neg (by decide) (Evs.ite_neg (by decide) (Evs.ite_neg (by decide) (Evs.ite_neg (by decide) (Evs.ite_neg (by decide) (Evs.ite_neg (by decide) (Evs.ite_neg (by decide) (Evs.ite_pos rfl (Evs.ite_pos ?_ (Evs.ite_pos ?_ (Evs.bind h4 (Evs.ite_pos ?_ (Evs.ite_pos ?_ (some_eq ?_)))))))))))))
    all_goals simp only [bA_mk, bA_app, bA_size]
    · first | omega | (simp; omega)
    · first | omega | (simp; omega)
    · first | omega | (simp; omega)
    · first | omega | (simp; omega)
    · first | rfl | (congr 1; simp [fmA, fmB, fmX, fmY, fmS, Lib.join_cons, Lib.joinTail])
  · refine Evs.ite_neg (by decide) (Evs.ite_neg (by decide) (Evs.ite_neg (by decide) (Evs.ite_neg (by decide) (Evs.ite_neg (by decide) (Evs.ite_neg (by decide) (Evs.ite_neg (by decide) (Evs.ite_neg (by decide) (Evs.ite_pos rfl (Evs.ite_pos ?_ (some_eq ?_))))))))))
    all_goals simp only [bA_mk, bA_app, bA_size]
    · first | omega | (simp; omega)
    · first | rfl | (congr 1; simp [fmA, fmB, fmX, fmY, fmS, Lib.join_cons, Lib.joinTail])
  · refine Evs.ite_neg (by decide) (Evs.ite_neg (by decide) (Evs.ite_neg (by decide) (Evs.ite_neg (by decide) (Evs.ite_neg (by decide) (Evs.ite_neg (by decide) (Evs.ite_neg (by decide) (Evs.ite_neg (by decide) (Evs.ite_neg (by decide) (Evs.ite_pos rfl (Evs.ite_pos ?_ (some_eq ?_)))))))))))
    all_goals simp only [bA_mk, bA_app, bA_size]
    · first | omega | (simp; omega)
    · first | rfl | (congr 1; simp [fmA, fmB, fmX, fmY, fmS, Lib.join_cons, Lib.joinTail])
  · refine Evs.ite_neg (by decide) (Evs.ite_neg (by decide) (Evs.ite_neg (by decide) (Evs.ite_neg (by decide) (Evs.ite_neg (by decide) (Evs.ite_neg (by decide) (Evs.ite_neg (by decide) (Evs.ite_neg (by decide) (Evs.ite_neg (by decide) (Evs.ite_neg (by decide) (some_eq ?_))))))))))
    all_goals simp only [bA_mk, bA_app, bA_size]
    · first | rfl | (congr 1; simp [fmA, fmB, fmX, fmY, fmS, Lib.join_cons, Lib.joinTail])
theorem sp_loop (d : Nat) (l : List S49) (hk : okD (d + 1) l) (hc : cntL (d + 1) l ≤ 1000) (hw : ∀ x ∈ l, Ev (fun k => spec_l2Word.f k x.f0 x.f1 x.f2 x.f3 x.f4 x.f5) (bA (stT (txT d) x))) (e : Nat) : ∀ (i : Nat), i + e = l.length → Ev (fun k => spec_l2Text.l0 k l (bA ((l.take i).map fun x => stT (txT d) x ++ [32]).flatten) (i : Int)) (bA (spT (d + 1) l)) := by
  have hl := cnt_len d l
  induction e with
  | zero =>
    intro i hi
    refine Evs.succ (fun k => by simp only [spec_l2Text.l0]; rfl) (Evs.ite_neg (by omega) ?_)
    rw [List.take_of_length_le (by omega)]
    exact Evs.some_ _
  | succ e ih =>
    intro i hi
    have hlt : i < l.length := by omega
    have q := ih (i + 1) (by omega)
    have e1 : l.take (i + 1) = l.take i ++ [rd_T49 l (i : Int)] := by
      rw [List.take_add_one]
      unfold rd_T49
      rw [Int.toNat_natCast, List.getD_eq_getElem?_getD, List.getElem?_eq_getElem hlt]
      rfl
    have len : ((l.take (i + 1)).map fun x => stT (txT d) x ++ [32]).flatten.length ≤ 120001 := by
      have k1 : okD (d + 1) (l.take (i + 1)) := fun x hx => hk x (List.mem_of_mem_take hx)
      have k2 : cntL (d + 1) (l.take (i + 1)) ≤ cntL (d + 1) l := by
        have := cnt_append d (l.take (i + 1)) (l.drop (i + 1))
        rw [List.take_append_drop] at this
        omega
      have k3 := spT_len k1
      show (spT (d + 1) (l.take (i + 1))).length ≤ _
      omega
    rw [e1, List.map_append, List.flatten_append] at q len
    have hx := hw _ (rd_mem hlt)
    simp only [List.map_cons, List.map_nil, List.flatten_cons, List.flatten_nil, List.append_nil, List.length_append, List.length_cons, List.length_nil] at q len
    refine Evs.succ (fun k => by simp only [spec_l2Text.l0]; rfl) (Evs.ite_pos (by omega) (Evs.ite_pos (by omega) (Evs.bind hx (Evs.ite_pos ?_ (Evs.ite_pos ?_ ?_)))))
    all_goals simp only [bA_mk, bA_app, bA_size]
    · omega
    · rw [List.length_append]; omega
    · rw [wrap_succ (by omega), List.append_assoc]
      exact q
theorem spText_ev : ∀ (d : Nat) (l : List S49), okD d l → cntL d l ≤ 1000 → Ev (fun k => spec_l2Text.f k l) (bA (spT d l))
  | 0, l, h, _ => by
    cases l with
    | nil =>
      refine Evs.succ (fun k => by simp only [spec_l2Text.f]; rfl) (Evs.succ (fun k => by simp only [spec_l2Text.l0]; rfl) (Evs.ite_neg (by simp) (Evs.some_ _)))
    | cons x t =>
      obtain ⟨m, hm⟩ := h x (List.mem_cons_self ..)
      cases hm
  | d + 1, l, h, hc => by
    refine Evs.succ (fun k => by simp only [spec_l2Text.f]; rfl) ?_
    have hw : ∀ x ∈ l, Ev (fun k => spec_l2Word.f k x.f0 x.f1 x.f2 x.f3 x.f4 x.f5) (bA (stT (txT d) x)) := fun x hx => by
      have hk := okD_kids h hx
      obtain ⟨m, hm⟩ := h x hx
      have hcx : 1 + cntL d x.f4 + cntL d x.f5 ≤ cntL (d + 1) l := by
        obtain ⟨a, b, rfl⟩ := List.append_of_mem hx
        rw [cnt_append, cnt_cons]
        omega
      have g4 := spT_len hk.1
      have g5 := spT_len hk.2
      exact word_ev hm (by omega) (by omega) hk.1 hk.2 (spText_ev d x.f4 hk.1 (by omega)) (spText_ev d x.f5 hk.2 (by omega))
    exact sp_loop d l h hc hw l.length 0 (by omega)
theorem cnt_id {l : List S49} (h : SL 2 l) : wrap64 (cntL 3 l : Int) = (cntL 3 l : Int) := by
  have h2 : cntL 3 l ≤ l.length * (1 + 2 * 2199024304128) := cnt_bound (d := 2) (B := 2199024304128) l fun x hx => ⟨cnt2 (h.kids hx).1, cnt2 (h.kids hx).2⟩
  have h3 : l.length * (1 + 2 * 2199024304128) ≤ 1048576 * (1 + 2 * 2199024304128) := Nat.mul_le_mul_right _ h.1
  exact wrap_id (by omega) (by omega)
theorem cnt_14 {l : List S49} (h : SL 2 l) (ho : okLst l = true) : cntL 3 l ≤ 14 := by
  unfold okLst at ho
  rw [Bool.and_eq_true, decide_eq_true_eq, cnt_id h] at ho
  omega
theorem specText {l : List S49} (h : SL 3 l) (h2 : SL 2 l) : Ev (fun k => spec_StmtsText.f k l) (bA (txtV l)) := by
  unfold spec_StmtsText.f txtV
  refine Evs.bind (specOk h) ?_
  cases ho : okLst l with
  | false => exact Evs.ite_neg (by simp) (Evs.some_ _)
  | true =>
    have hc := cnt_14 h2 ho
    have hk := okD_ok ho
    refine Evs.ite_pos rfl (Evs.bind (spText_ev 3 l hk (by omega)) ?_)
    by_cases c : l = []
    · subst c
      exact Evs.ite_pos (by rw [bA_list, spT_nil]) (Evs.some_ _)
    · have e := spT_tx 2 l c
      have g := spT_len hk
      have hl : (txT 3 l).length ≤ 2000 := by
        have := txT_len 3 l hk
        omega
      rw [e]
      have es : (bA (txT 3 l ++ [32])).size = (txT 3 l).length + 1 := by rw [bA_size]; simp
      have ew : wrap64 (((bA (txT 3 l ++ [32])).size : Int) - 1) = ((txT 3 l).length : Int) := by rw [es, wrap_id (by omega) (by omega)]; omega
      rw [ew]
      refine Evs.ite_neg ?_ (Evs.ite_pos (by omega) (Evs.ite_pos (by rw [es]; omega) (some_eq ?_)))
      · rw [bA_list]
        simp
      · rw [if_pos rfl, if_neg (fun z => c (List.eq_nil_of_length_eq_zero z)), Int.toNat_natCast]
        apply ByteArray.ext
        rw [ByteArray.data_extract]
        simp [bA]
end Go.Proofs.YtnegnanlbdncmaaDoor.P

namespace Go.Proofs.YtnegnanlbdncmaaDoor.Pure
open Go.RowKit Go.Proofs.YtnegnanlbdncmaaDoor.P Go.Proofs.YtnegnanlbdncmaaDoorW.PrintWords Go.Proofs.YtnegnanlbdncmaaDoorW.PrintLast
open Go.Proofs.YtnegnanlbdncmaaDoor.P Go.Proofs.YtnegnanlbdncmaaDoorW.PrintMore
theorem FnExactStmtsText : laws_FnExactStmtsText.Pure := by
  intro l hb
  refine Ev.rounds (g := fun k => laws_FnExactStmtsText.f k l) ?_
  unfold laws_FnExactStmtsText.f
  obtain ⟨r, hr, c⟩ := lawL l hb 1048576 (by omega) (by omega)
  refine Evs.bind hr ?_
  rcases c with c | ⟨c0, c1, ts, ht⟩
  · exact Evs.ite_pos c (Evs.some_ _)
  have hi := implText (l := ts) (fun h => by have := cnt_14 (ht.sl 2) h; omega)
  exact Evs.ite_neg (by omega) (Evs.bind ht.1 (Evs.bind (specText (ht.sl 3) (ht.sl 2)) (Evs.bind ht.1 (Evs.bind hi (Evs.ite_pos (by rfl) (Evs.bind ht.1 (Evs.bind ht.eq (Evs.ite_pos rfl (Evs.some_ _)))))))))
end Go.Proofs.YtnegnanlbdncmaaDoor.Pure
