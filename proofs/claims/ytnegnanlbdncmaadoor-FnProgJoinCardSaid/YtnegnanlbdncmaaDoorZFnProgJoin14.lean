/- Parts of the proof of FnProgJoin: plain Lean functions of Go functions, and that the calls come to what they say; no condition beyond those that each theorem names. -/
import Derived.Test.YtnegnanlbdncmaaDoorZFnProgJoin13
import Derived.Deep.RegionWith
namespace Go.Proofs.YtnegnanlbdncmaaDoor.P
open Go.RowKit Go.Maps Go.Proofs.YtnegnanlbdncmaaDoorW.PrintWords Go.Proofs.YtnegnanlbdncmaaDoorW.PrintLast Go.Proofs.YtnegnanlbdncmaaDoorW.PrintMore
attribute [local go_sem] max2_int min2_int max_two min_two max_three min_three max_four min_four
attribute [local go_sem ↓] Go.wp_at_zero Go.wp_at_succ
set_option linter.unusedVariables false
set_option linter.unusedSimpArgs false
set_option maxHeartbeats 2000000 in
set_option maxRecDepth 100000 in
theorem str_of (F : List S49 → Option (List UInt8)) (hF : TSays F) (a0 a1 a2 a3 : Int) (A4 : Option Addr) (c4 : Nat) (l4 : List S49) (A5 : Option Addr) (c5 : Nat) (l5 : List S49) (r : List UInt8) (w : World) (hT : Tab w)
    (hr4 : Kd.C k49 w A4 l4.length l4) (hc4 : l4.length ≤ c4) (hr5 : Kd.C k49 w A5 l5.length l5) (hc5 : l5.length ≤ c5) (h : stB F a0 a1 a2 a3 l4 l5 = some r) :
    Calls Tryd.prog 46 #[.agg #[.int .i64 a0, .int .i64 a1, .int .i64 a2, .int .i64 a3, .slice A4 l4.length c4, .slice A5 l5.length c5]] w fun e w' => e = .returned (sV r) ∧ Below w.heap.size w w' := by
  have HR4 := Aside0.mk hr4
  have HR5 := Aside0.mk hr5
  have HF := Aside0.mk hF
  have HT := Aside0.mk hT
  clear hr4 hr5 hF hT
  unfold stB at h
  split at h
  case isFalse => cases h
  rename_i hok
  obtain ⟨x, hx, h1⟩ := Option.bind_eq_some_iff.1 h
  obtain ⟨y, hy, h2⟩ := Option.bind_eq_some_iff.1 h1
  have HX := Aside0.mk hx
  have HY := Aside0.mk hy
  have HJ := Aside0.mk h2
  have HN := Aside0.mk hok
  clear hx hy h h1 h2 hok
  have hl1 := look1' w
  have hl2 := look2' w
  have hl3 := look3' w
  go_enter Tryd.func46, Tryd.ntmps46
  go_upto_region 1 with fail
  go_cut [3] (fun s3 wx => ∃ g : Nat, s3 = .pointer (some ⟨g, 0, none⟩) ∧ Aside0 (OkAt wx w.heap.size g a0 a1 a2 a3 (.slice A4 l4.length c4) (.slice A5 l5.length c5)) ∧ Aside0 (Below w.heap.size w wx))
  case first =>
    go_region_held3 (fun w' => w'.cell? ⟨w.heap.size, 0, none⟩ = some (.int .i64 a0)) (go_keep)
      (first | (go_at_call 58; refine (forms_calls _).mono ?_; rintro e w' ⟨rfl, rfl⟩))
    all_goals (go_wp2_with fail; go_meet; first | exact ⟨_, rfl, ⟨okAt1 w _ _ _ _ _ _⟩, ⟨below_drew1 (below_alloc (below_alloc (below_alloc (Below.refl _ w) _) _) _)⟩⟩ | exact ⟨_, rfl, ⟨okAt3 w _ _ _ _ _ _⟩, ⟨below_drew1 (below_alloc (below_alloc (below_alloc (Below.refl _ w) _) _) _)⟩⟩)
  case rest =>
  obtain ⟨g, rfl, HOk, HB⟩ := hcut
  clear hl1 hl2 hl3
  obtain ⟨e0, e1, e2, e3, e4, e5, f1, f2, f3, f4⟩ := HOk.out.cells
  have f0 := cell_of HOk.out.f 0 rfl
  have HW : WdAt w (wc.alloc (.cells #[.string (fmS a0)] 9)) g a0 a1 a2 a3 (.slice A4 l4.length c4) (.slice A5 l5.length c5) (.slice (some ⟨wc.heap.size, 0, none⟩) 1 1) [(fmS a0).data.toList] 8 := by
    refine ⟨HOk.out.below ((Below.refl _ _).alloc (Nat.le_refl _) _), ?_, HB.out.alloc HB.out.size _, Nat.le_of_ble_eq_true rfl⟩
    have := World.ownsRow_lit (base := w.heap.size) (e := 9) (size := 1) wc #[.string (fmS a0)] 1 HB.out.size (by decide) rfl
    simpa [encs, sV] using this
  have HW := Aside0.mk HW
  go_upto_region 3 with fail
  obtain ⟨b, hb⟩ : ∃ b, b = wc.heap.size := ⟨_, rfl⟩
  rw [← hb] at HW ⊢
  generalize wc.alloc (.cells #[.string (fmS a0)] 9) = w1 at *
  clear hb HOk HB e0 e1 e2 e3 e4 e5 f0 f1 f2 f3 f4
  obtain ⟨e0, e1, e2, e3, e4, e5, f1, f2, f3, f4⟩ := HW.out.k.cells
  go_upto_if 16 with fail
  go_cut [4] (fun s4 wx => ∃ v : Value, s4 = v ∧ Aside0 (WdAt w wx g a0 a1 a2 a3 (.slice A4 l4.length c4) (.slice A5 l5.length c5) v [head0 a0 a3] 8))
  case first =>
    by_cases k0 : a0 = 2
    · have k0a : (a0 == 2) = true := by simpa using k0
      clear f1 f2 f3 f4 e1 e2 e4 e5
      have ha3 := HN.out.2.2.2 k0
      obtain ⟨x0, y0, y1⟩ := own_blk HW.out.o (Nat.zero_lt_one) rfl
      have x1 := fun o => (y1 o).1
      replace y1 := fun o => (y1 o).2
      have z1 : ∀ o : Obj, (w1.alloc o).cell? ⟨w.heap.size, 3, none⟩ = some (.int .i64 a3) := fun o => (blk_cell (blk_alloc HW.out.k.s o) 3).trans rfl
      have K0 := Aside0.mk k0
      clear k0
      rcases (by omega : a3 = 0 ∨ a3 = 1 ∨ a3 = 2 ∨ a3 = 3 ∨ a3 = 4 ∨ a3 = 5) with rfl | rfl | rfl | rfl | rfl | rfl
      · clear ha3
        go_upto_region 4 with fail
        go_region_with (first | (go_at_call 61; refine (opWords_calls _).mono ?_; rintro e w' ⟨rfl, rfl⟩; unfold opsC sV))
        all_goals (go_wp2_with fail; go_meet; exact ⟨_, rfl, ⟨by rw [show head0 a0 0 = opW 0 from if_pos K0.out]; exact HW.out.put _ (opW 0)⟩⟩)
      · clear ha3
        go_upto_region 4 with fail
        go_region_with (first | (go_at_call 61; refine (opWords_calls _).mono ?_; rintro e w' ⟨rfl, rfl⟩; unfold opsC sV))
        all_goals (go_wp2_with fail; go_meet; exact ⟨_, rfl, ⟨by rw [show head0 a0 1 = opW 1 from if_pos K0.out]; exact HW.out.put _ (opW 1)⟩⟩)
      · clear ha3
        go_upto_region 4 with fail
        go_region_with (first | (go_at_call 61; refine (opWords_calls _).mono ?_; rintro e w' ⟨rfl, rfl⟩; unfold opsC sV))
        all_goals (go_wp2_with fail; go_meet; exact ⟨_, rfl, ⟨by rw [show head0 a0 2 = opW 2 from if_pos K0.out]; exact HW.out.put _ (opW 2)⟩⟩)
      · clear ha3
        go_upto_region 4 with fail
        go_region_with (first | (go_at_call 61; refine (opWords_calls _).mono ?_; rintro e w' ⟨rfl, rfl⟩; unfold opsC sV))
        all_goals (go_wp2_with fail; go_meet; exact ⟨_, rfl, ⟨by rw [show head0 a0 3 = opW 3 from if_pos K0.out]; exact HW.out.put _ (opW 3)⟩⟩)
      · clear ha3
        go_upto_region 4 with fail
        go_region_with (first | (go_at_call 61; refine (opWords_calls _).mono ?_; rintro e w' ⟨rfl, rfl⟩; unfold opsC sV))
        all_goals (go_wp2_with fail; go_meet; exact ⟨_, rfl, ⟨by rw [show head0 a0 4 = opW 4 from if_pos K0.out]; exact HW.out.put _ (opW 4)⟩⟩)
      · clear ha3
        go_upto_region 4 with fail
        go_region_with (first | (go_at_call 61; refine (opWords_calls _).mono ?_; rintro e w' ⟨rfl, rfl⟩; unfold opsC sV))
        all_goals (go_wp2_with fail; go_meet; exact ⟨_, rfl, ⟨by rw [show head0 a0 5 = opW 5 from if_pos K0.out]; exact HW.out.put _ (opW 5)⟩⟩)
    · have k0a : (a0 == 2) = false := by simpa using k0
      go_wp2
      go_meet
      have e : head0 a0 a3 = (fmS a0).data.toList := if_neg k0
      exact ⟨_, rfl, by rw [e]; exact HW⟩
  case rest =>
  obtain ⟨v, rfl, HV⟩ := hcut
  clear HW e0 e1 e2 e3 e4 e5 f1 f2 f3 f4
  have HW := HV
  clear HV
  obtain ⟨e0, e1, e2, e3, e4, e5, f1, f2, f3, f4⟩ := HW.out.k.cells
  go_wp2
  have HL := Aside0.mk (blk_new wc (.cells #[.int .i64 (fmA a0), .int .i64 (fmB a0)] 3))
  have HV := Aside0.mk (HW.out.below ((Below.refl _ wc).alloc (Nat.le_refl _) (.cells #[.int .i64 (fmA a0), .int .i64 (fmB a0)] 3)))
  clear HW e0 e1 e2 e3 e4 e5 f1 f2 f3 f4
  have HW := HV
  clear HV
  generalize wc.heap.size = q at *
  generalize wc.alloc (.cells #[.int .i64 (fmA a0), .int .i64 (fmB a0)] 3) = w2 at *
  go_loopg [4, 30] 3 (fun gg p4 p30 wr => ∃ (kk : Nat) (v : Value), kk ≤ 2 ∧ 2 - kk < gg ∧ p4 = v ∧ p30 = .int .i64 kk ∧ Aside0 (WdAt w wr g a0 a1 a2 a3 (.slice A4 l4.length c4) (.slice A5 l5.length c5) v (wsAt a0 a1 a2 a3 kk) (8 - kk)) ∧ Aside0 (wr.heap[q]? = some (.cells #[.int .i64 (fmA a0), .int .i64 (fmB a0)] 3 (0, 0))))
  case atStart => exact ⟨0, _, by omega, by omega, rfl, rfl, HW, HL⟩
  case round =>
    obtain ⟨kk, vv, hkk, hgk, rfl, rfl, HV, HL⟩ := hrel
    obtain ⟨e0, e1, e2, e3, e4, e5, f1, f2, f3, f4⟩ := HV.out.k.cells
    obtain ⟨ws, hws⟩ : ∃ l, l = wsAt a0 a1 a2 a3 kk := ⟨_, rfl⟩
    rw [← hws] at HV
    obtain ⟨Av, cv, rfl⟩ := own_slice HV.out.o
    rcases (by omega : kk = 0 ∨ kk = 1 ∨ kk = 2) with rfl | rfl | rfl
    · clear HW
      by_cases kA : 0 < fmA a0
      · have kA1 : decide (0 < fmA a0) = true := decide_eq_true kA
        have hit := fun o : Obj => itoa_calls a1 HN.out.1.1 HN.out.1.2 (wr.alloc o) ((HT.out.below HV.out.b).below ((Below.refl _ _).alloc (Nat.le_refl _) o))
        have HIT := Aside0.mk hit
        have KA := Aside0.mk (hws.trans rfl ▸ wsA_pos (a1 := a1) (a2 := a2) (a3 := a3) kA : wsAt a0 a1 a2 a3 1 = ws ++ [Lib.itoa a1])
        clear hit kA hws e4 e5 f1 f2 f3 f4
        have l0 := (blk_cell HL.out 0).trans (rfl : _ = some (Value.int .i64 (fmA a0)))
        go_wp2_with (first
          | (go_at_call 62; refine (HIT.out _).mono ?_; rintro e w3 ⟨rfl, hb⟩; have hb1 := below_step ((Below.refl _ wr).alloc (Nat.le_refl _) _) hb; have n1 := Aside0.mk (HV.out.below hb1); have n2 := Aside0.mk (blk_below HL.out hb1); clear hb hb1 HV HL e0 e1 e2 e3 l0 HIT; have HV := n1; have HL := n2; clear n1 n2)
          | ((with_reducible refine gate_builtin (b := .append) (xs := #[.tmp 37, .tmp 47]) rfl ?_); at_builtin; refine print_append_of sV w.heap.size rfl (.tmp 37) (.tmp 47) 66 9 (.string ⟨#[]⟩) 16 rfl Tryd.underlying66 info9 rfl (by decide) (.slice Av _ cv) ws (Lib.itoa a1) rfl rfl rfl HV.out.o HV.out.b HV.out.b.size HV.out.room ?_; intro v1 w4 ho hb hg hat; have n1 := Aside0.mk (HV.out.app (m := 7) hg ho hb); have n2 := Aside0.mk (blk_app HV.out hg HL.out (by decide)); clear ho hb hg hat HV HL; have HV := n1; have HL := n2; clear n1 n2; obtain ⟨A1, c1, rfl⟩ := own_slice HV.out.o))
        go_roundg 2
        case measure => omega
        case rel => exact ⟨1, _, by omega, by omega, rfl, rfl, ⟨by rw [KA.out]; have z := HV.out; rw [show (ws ++ [Lib.itoa a1]).length = ws.length + 1 from by simp] at z; exact z⟩, HL⟩
      · have kA1 : decide (0 < fmA a0) = false := decide_eq_false kA
        have KA := Aside0.mk (hws.trans rfl ▸ wsA_neg (a1 := a1) (a2 := a2) (a3 := a3) kA : wsAt a0 a1 a2 a3 1 = ws)
        clear kA hws e4 e5 f1 f2 f3 f4
        have l0 := (blk_cell HL.out 0).trans (rfl : _ = some (Value.int .i64 (fmA a0)))
        go_wp2
        go_roundg 2
        case measure => omega
        case rel => exact ⟨1, _, by omega, by omega, rfl, rfl, ⟨by rw [KA.out]; exact HV.out.weak (m' := 7) (by omega)⟩, HL⟩
    · clear HW
      by_cases kA : 0 < fmB a0
      · have kA1 : decide (0 < fmB a0) = true := decide_eq_true kA
        have hit := fun o : Obj => itoa_calls a2 HN.out.2.1.1 HN.out.2.1.2 (wr.alloc o) ((HT.out.below HV.out.b).below ((Below.refl _ _).alloc (Nat.le_refl _) o))
        have HIT := Aside0.mk hit
        have KA := Aside0.mk (hws.trans rfl ▸ wsB_pos (a1 := a1) (a2 := a2) (a3 := a3) kA : wsAt a0 a1 a2 a3 2 = ws ++ [Lib.itoa a2])
        clear hit kA hws e4 e5 f1 f2 f3 f4
        have l0 := (blk_cell HL.out 1).trans (rfl : _ = some (Value.int .i64 (fmB a0)))
        go_wp2_with (first
          | (go_at_call 62; refine (HIT.out _).mono ?_; rintro e w3 ⟨rfl, hb⟩; have hb1 := below_step ((Below.refl _ wr).alloc (Nat.le_refl _) _) hb; have n1 := Aside0.mk (HV.out.below hb1); have n2 := Aside0.mk (blk_below HL.out hb1); clear hb hb1 HV HL e0 e1 e2 e3 l0 HIT; have HV := n1; have HL := n2; clear n1 n2)
          | ((with_reducible refine gate_builtin (b := .append) (xs := #[.tmp 37, .tmp 47]) rfl ?_); at_builtin; refine print_append_of sV w.heap.size rfl (.tmp 37) (.tmp 47) 66 9 (.string ⟨#[]⟩) 16 rfl Tryd.underlying66 info9 rfl (by decide) (.slice Av _ cv) ws (Lib.itoa a2) rfl rfl rfl HV.out.o HV.out.b HV.out.b.size HV.out.room ?_; intro v1 w4 ho hb hg hat; have n1 := Aside0.mk (HV.out.app (m := 6) hg ho hb); have n2 := Aside0.mk (blk_app HV.out hg HL.out (by decide)); clear ho hb hg hat HV HL; have HV := n1; have HL := n2; clear n1 n2; obtain ⟨A1, c1, rfl⟩ := own_slice HV.out.o))
        go_roundg 1
        case measure => omega
        case rel => exact ⟨2, _, by omega, by omega, rfl, rfl, ⟨by rw [KA.out]; have z := HV.out; rw [show (ws ++ [Lib.itoa a2]).length = ws.length + 1 from by simp] at z; exact z⟩, HL⟩
      · have kA1 : decide (0 < fmB a0) = false := decide_eq_false kA
        have KA := Aside0.mk (hws.trans rfl ▸ wsB_neg (a1 := a1) (a2 := a2) (a3 := a3) kA : wsAt a0 a1 a2 a3 2 = ws)
        clear kA hws e4 e5 f1 f2 f3 f4
        have l0 := (blk_cell HL.out 1).trans (rfl : _ = some (Value.int .i64 (fmB a0)))
        go_wp2
        go_roundg 1
        case measure => omega
        case rel => exact ⟨2, _, by omega, by omega, rfl, rfl, ⟨by rw [KA.out]; exact HV.out.weak (m' := 6) (by omega)⟩, HL⟩
    · clear HW HL
      have KW := Aside0.mk hws
      have HW := Aside0.mk (show WdAt w wr g a0 a1 a2 a3 (.slice A4 l4.length c4) (.slice A5 l5.length c5) (.slice Av ws.length cv) ws (5 + 1) from HV.out)
      clear hws hgk hkk HV
      go_upto_if 52 with fail
      go_cut [4] (fun s4 wx => ∃ v ws1, s4 = v ∧ Aside0 (ws1 = heads a0 a1 a2 a3) ∧ Aside0 (WdAt w wx g a0 a1 a2 a3 (.slice A4 l4.length c4) (.slice A5 l5.length c5) v ws1 5))
      case first =>
        by_cases k1 : a0 = 1
        · have k1a : (a0 == 1) = true := by simpa using k1
          have hit := fun W (hb : Below wr.heap.size wr W) => itoa_calls a3 HN.out.2.2.1.1 HN.out.2.2.1.2 W ((HT.out.below HW.out.b).below hb)
          have HIT := Aside0.mk (hit wr (Below.refl _ _))
          have KA := Aside0.mk (show ws ++ [Lib.itoa a3] = heads a0 a1 a2 a3 by rw [KW.out]; unfold heads wsAt; rw [if_pos k1])
          clear hit k1 e4 e5 f1 f2 f3 f4 KW
          go_wp2_with (first
            | (go_at_call 62; refine HIT.out.mono ?_; rintro e w3 ⟨rfl, hb⟩; have n1 := Aside0.mk (HW.out.below hb); clear hb HW e0 e1 e2 e3 HIT; have HW := n1; clear n1)
            | ((with_reducible refine gate_builtin (b := .append) (xs := #[.tmp 53, .tmp 57]) rfl ?_); at_builtin; refine print_append_of sV w.heap.size rfl (.tmp 53) (.tmp 57) 66 9 (.string ⟨#[]⟩) 16 rfl Tryd.underlying66 info9 rfl (by decide) (.slice Av _ cv) ws (Lib.itoa a3) rfl rfl rfl HW.out.o HW.out.b HW.out.b.size HW.out.room ?_; intro v1 w4 ho hb hg hat; have n1 := Aside0.mk (HW.out.app (m := 5) hg ho hb); clear ho hb hg hat HW; have HW := n1; clear n1))
          go_meet
          exact ⟨_, _, rfl, KA, HW⟩
        · have k1a : (a0 == 1) = false := by simpa using k1
          have KA := Aside0.mk (show ws = heads a0 a1 a2 a3 by rw [KW.out]; unfold heads wsAt; rw [if_neg k1, List.append_nil])
          clear k1 KW
          go_wp2
          go_meet
          exact ⟨_, _, rfl, KA, ⟨HW.out.weak (by omega)⟩⟩
      case rest =>
      obtain ⟨v1, ws1, rfl, KW1, HV⟩ := hcut
      clear HW e0 e1 e2 e3 e4 e5 f1 f2 f3 f4 KW
      have HW := HV
      clear HV
      obtain ⟨e0, e1, e2, e3, e4, e5, f1, f2, f3, f4⟩ := HW.out.k.cells
      obtain ⟨Av1, cv1, rfl⟩ := own_slice HW.out.o
      go_upto_if 60 with fail
      go_cut [4] (fun s4 wx => ∃ v ws2, s4 = v ∧ Aside0 (ws2 = heads a0 a1 a2 a3 ++ x) ∧ Aside0 (WdAt w wx g a0 a1 a2 a3 (.slice A4 l4.length c4) (.slice A5 l5.length c5) v ws2 4))
      case first =>
        cases hfm : fmX a0 with
        | true =>
          obtain ⟨t, hx, ht⟩ : ∃ t, x = [t] ∧ brF F l4 = some t := by
            have z := HX.out
            rw [hfm] at z
            obtain ⟨t, h1, h2⟩ := Option.bind_eq_some_iff.1 (show (brF F l4).bind (fun t => some [t]) = some x from z)
            exact ⟨t, (Option.some.inj h2).symm, h1⟩
          have HIT := Aside0.mk (brk_of F HF.out A4 c4 l4 t wc (HT.out.below HW.out.b) (Kd.C_below HR4.out HW.out.b) hc4 ht)
          have KA := Aside0.mk (show ws1 ++ [t] = heads a0 a1 a2 a3 ++ x by rw [KW1.out, hx])
          clear ht hx
          go_wp2_with (first
            | (go_at_call 63; refine HIT.out.mono ?_; rintro e w3 ⟨rfl, hb⟩; unfold sV; have n1 := Aside0.mk (HW.out.below hb); clear hb HW e0 e1 e2 e3 e4 e5 f1 f2 f3 f4 HIT; have HW := n1; clear n1)
            | ((with_reducible refine gate_builtin (b := .append) (xs := #[.tmp 61, .tmp 65]) rfl ?_); at_builtin; refine print_append_of sV w.heap.size rfl (.tmp 61) (.tmp 65) 66 9 (.string ⟨#[]⟩) 16 rfl Tryd.underlying66 info9 rfl (by decide) (.slice Av1 _ cv1) ws1 t rfl rfl rfl HW.out.o HW.out.b HW.out.b.size HW.out.room ?_; intro v1 w4 ho hb hg hat; have n1 := Aside0.mk (HW.out.app (m := 4) hg ho hb); clear ho hb hg hat HW; have HW := n1; clear n1))
          go_meet
          exact ⟨_, _, rfl, KA, HW⟩
        | false =>
          have KA := Aside0.mk (show ws1 = heads a0 a1 a2 a3 ++ x by
            have z := HX.out
            rw [hfm] at z
            rw [KW1.out, ← Option.some.inj (show some [] = some x from z), List.append_nil])
          go_wp2
          go_meet
          exact ⟨_, _, rfl, KA, ⟨HW.out.weak (by omega)⟩⟩
      case rest =>
      obtain ⟨v2, ws2, rfl, KW2, HV⟩ := hcut
      clear HW e0 e1 e2 e3 e4 e5 f1 f2 f3 f4
      have HW := HV
      clear HV
      obtain ⟨e0, e1, e2, e3, e4, e5, f1, f2, f3, f4⟩ := HW.out.k.cells
      obtain ⟨Av2, cv2, rfl⟩ := own_slice HW.out.o
      go_upto_if 68 with fail
      go_cut [4] (fun s4 wx => ∃ v ws2, s4 = v ∧ Aside0 (ws2 = heads a0 a1 a2 a3 ++ x ++ y) ∧ Aside0 (WdAt w wx g a0 a1 a2 a3 (.slice A4 l4.length c4) (.slice A5 l5.length c5) v ws2 3))
      case first =>
        cases hfm : fmY a0 with
        | true =>
          obtain ⟨t, hx, ht⟩ : ∃ t, y = [t] ∧ brF F l5 = some t := by
            have z := HY.out
            rw [hfm] at z
            obtain ⟨t, h1, h2⟩ := Option.bind_eq_some_iff.1 (show (brF F l5).bind (fun t => some [t]) = some y from z)
            exact ⟨t, (Option.some.inj h2).symm, h1⟩
          have HIT := Aside0.mk (brk_of F HF.out A5 c5 l5 t wc (HT.out.below HW.out.b) (Kd.C_below HR5.out HW.out.b) hc5 ht)
          have KA := Aside0.mk (show ws2 ++ [t] = heads a0 a1 a2 a3 ++ x ++ y by rw [KW2.out, hx])
          clear ht hx
          go_wp2_with (first
            | (go_at_call 63; refine HIT.out.mono ?_; rintro e w3 ⟨rfl, hb⟩; unfold sV; have n1 := Aside0.mk (HW.out.below hb); clear hb HW e0 e1 e2 e3 e4 e5 f1 f2 f3 f4 HIT; have HW := n1; clear n1)
            | ((with_reducible refine gate_builtin (b := .append) (xs := #[.tmp 69, .tmp 73]) rfl ?_); at_builtin; refine print_append_of sV w.heap.size rfl (.tmp 69) (.tmp 73) 66 9 (.string ⟨#[]⟩) 16 rfl Tryd.underlying66 info9 rfl (by decide) (.slice Av2 _ cv2) ws2 t rfl rfl rfl HW.out.o HW.out.b HW.out.b.size HW.out.room ?_; intro v1 w4 ho hb hg hat; have n1 := Aside0.mk (HW.out.app (m := 3) hg ho hb); clear ho hb hg hat HW; have HW := n1; clear n1))
          go_meet
          exact ⟨_, _, rfl, KA, HW⟩
        | false =>
          have KA := Aside0.mk (show ws2 = heads a0 a1 a2 a3 ++ x ++ y by
            have z := HY.out
            rw [hfm] at z
            rw [KW2.out, ← Option.some.inj (show some [] = some y from z), List.append_nil])
          go_wp2
          go_meet
          exact ⟨_, _, rfl, KA, ⟨HW.out.weak (by omega)⟩⟩
      case rest =>
      obtain ⟨v3, ws3, rfl, KW3, HV⟩ := hcut
      clear HW e0 e1 e2 e3 e4 e5 f1 f2 f3 f4
      have HW := HV
      clear HV
      obtain ⟨e0, e1, e2, e3, e4, e5, f1, f2, f3, f4⟩ := HW.out.k.cells
      obtain ⟨Av3, cv3, rfl⟩ := own_slice HW.out.o
      have hn3 : ws3.length ≤ 1099511627777 := by have := HW.out.n; omega
      have HIT := Aside0.mk (join_calls _ ws3 r wc _ HW.out.o hn3 (by rw [KW3.out]; exact HJ.out))
      clear hn3 e0 e1 e2 e3 e4 e5 f1 f2 f3 f4
      go_wp2_with (first | (go_at_call 47; refine HIT.out.mono ?_; rintro e w3 ⟨rfl, hb⟩; have n1 := Aside0.mk (below_step HW.out.b hb); clear hb HW HIT; have HW := n1; clear n1))
      go_ret
      exact ⟨rfl, HW.out⟩
end Go.Proofs.YtnegnanlbdncmaaDoor.P

namespace Go.Proofs.YtnegnanlbdncmaaDoor.P
open Go.RowKit Go.Maps Go.Proofs.YtnegnanlbdncmaaDoorW.PrintWords Go.Proofs.YtnegnanlbdncmaaDoorW.PrintLast Go.Proofs.YtnegnanlbdncmaaDoorW.PrintMore
attribute [local go_sem] max2_int min2_int max_two min_two max_three min_three max_four min_four
attribute [local go_sem ↓] Go.wp_at_zero Go.wp_at_succ
set_option linter.unusedVariables false
set_option linter.unusedSimpArgs false
theorem wsF_length (F : List S49 → Option (List UInt8)) : ∀ (l : List S49) (ws : List (List UInt8)), wsF F l = some ws → ws.length = l.length
  | [], ws, h => by
    obtain rfl := Option.some.inj (show some [] = some ws from h)
    rfl
  | x :: t, ws, h => by
    obtain ⟨s, _, h⟩ := Option.bind_eq_some_iff.1 (show (stF F x).bind (fun s => (wsF F t).bind fun r => some (s :: r)) = some ws from h)
    obtain ⟨r, hr, h⟩ := Option.bind_eq_some_iff.1 h
    obtain rfl := Option.some.inj h
    rw [List.length_cons, List.length_cons, wsF_length F t r hr]
theorem wsF_snoc (F : List S49 → Option (List UInt8)) : ∀ (l : List S49) (ws : List (List UInt8)) (k : Nat) (x : S49), wsF F l = some ws → l[k]? = some x → ∃ s, stF F x = some s ∧ ws.take (k + 1) = ws.take k ++ [s]
  | [], ws, k, x, h, hk => by simp at hk
  | y :: t, ws, k, x, h, hk => by
    obtain ⟨s, hs, h⟩ := Option.bind_eq_some_iff.1 (show (stF F y).bind (fun s => (wsF F t).bind fun r => some (s :: r)) = some ws from h)
    obtain ⟨r, hr, h⟩ := Option.bind_eq_some_iff.1 h
    obtain rfl := Option.some.inj h
    cases k with
    | zero =>
      obtain rfl := Option.some.inj (show some y = some x from hk)
      exact ⟨s, hs, rfl⟩
    | succ k =>
      obtain ⟨s', h1, h2⟩ := wsF_snoc F t r k x hr (by simpa using hk)
      exact ⟨s', h1, by rw [List.take_succ_cons, List.take_succ_cons, h2, List.cons_append]⟩
set_option maxHeartbeats 2000000 in
set_option maxRecDepth 100000 in
theorem joined_of (F : List S49 → Option (List UInt8)) (hF : TSays F) : TSays (joF F) := by
  intro A c l r w hT hC hc h
  unfold joF at h
  split at h
  case isFalse => cases h
  rename_i hlen
  obtain ⟨ws, hws, h1⟩ := Option.bind_eq_some_iff.1 h
  have hwl := wsF_length F l ws hws
  have HF := Aside0.mk hF
  have HT := Aside0.mk hT
  have HC := Aside0.mk hC
  have HWS := Aside0.mk hws
  have HJ := Aside0.mk h1
  have HLN := Aside0.mk hlen
  have HWL := Aside0.mk hwl
  have hlx : l.length ≤ 9223372036854775807 := by omega
  clear hF hT hC h h1 hws hwl hlen
  go_enter Tryd.func27, Tryd.ntmps27
  go_wp2
  go_loopg [3, 8] l.length (fun gg p3 p8 wr => ∃ (kk : Nat) (v : Value), kk ≤ l.length ∧ l.length - kk ≤ gg ∧ p3 = v ∧ p8 = .int .i64 kk ∧ Aside0 (wr.ownsRow w.heap.size 9 1 v kk (encs sV (ws.take kk))) ∧ Aside0 (Below w.heap.size w wr))
  case atStart => exact ⟨0, _, Nat.zero_le _, by omega, rfl, rfl, ⟨own_nil w _ _ _⟩, ⟨Below.refl _ _⟩⟩
  case round =>
    obtain ⟨kk, vv, hkk, hgk, rfl, rfl, HO, HB⟩ := hrel
    obtain ⟨Av, cv, rfl⟩ := own_slice HO.out
    by_cases hlt : kk < l.length
    · have hltz : decide ((kk : Int) < (l.length : Int)) = true := decide_eq_true (by omega)
      have p1 : 0 ≤ (kk : Int) := by omega
      have q1 : (kk : Int) < (l.length : Int) := by omega
      obtain ⟨ad, A4, c4, A5, c5, e1, g0, g1, g2, g3, g4, g5, hc4, H4, hc5, H5⟩ := at_T49 (Kd.C_below HC.out HB.out) (kk : Int) p1 q1
      cases e1
      rw [Int.toNat_natCast] at g0 g1 g2 g3 g4 g5
      have hki : l[kk]? = some (rd_T49 l (kk : Int)) := by
        unfold rd_T49
        rw [Int.toNat_natCast, List.getD_eq_getElem?_getD, List.getElem?_eq_getElem hlt]
        rfl
      obtain ⟨s, hs, hsn⟩ := wsF_snoc F l ws kk _ HWS.out hki
      have hcall := fun (o : Obj) => str_of F HF.out _ _ _ _ A4 c4 _ A5 c5 _ s (wr.alloc o) ((HT.out.below HB.out).below ((Below.refl _ _).alloc (Nat.le_refl _) o)) (Kd.C_below H4 ((Below.refl _ wr).alloc (Nat.le_refl _) o)) hc4 (Kd.C_below H5 ((Below.refl _ wr).alloc (Nat.le_refl _) o)) hc5 hs
      have HCL := Aside0.mk hcall
      have HSN := Aside0.mk hsn
      have hkl : (ws.take kk).length = kk := by rw [List.length_take, HWL.out]; omega
      have hrm : ((ws.take kk).length + 1) * 16 ≤ 140737488355328 := by rw [hkl]; have := HLN.out; omega
      have HKL := Aside0.mk hkl
      have HRM := Aside0.mk hrm
      have HO1 := HO.out
      have hoo : wr.ownsRow w.heap.size 9 1 (.slice Av kk cv) (ws.take kk).length (encs sV (ws.take kk)) := by rw [hkl]; exact HO1
      have HOO := Aside0.mk hoo
      clear hcall hsn hki hs H4 H5 hkl hrm HO1 hoo HO
      generalize rd_T49 l (kk : Int) = x at *
      replace p1 := eq_true p1
      replace q1 := eq_true q1
      go_wp2_with (first
        | (go_at_call 46; refine (HCL.out _).mono ?_; rintro e w3 ⟨rfl, hb⟩; unfold sV; have hb1 := below_step ((Below.refl _ wr).alloc (Nat.le_refl _) _) hb; have n1 := Aside0.mk (pw_own_below HOO.out hb1); have n2 := Aside0.mk (below_step HB.out hb1); clear hb hb1 HOO HB g0 g1 g2 g3 g4 g5 HCL; have HOO := n1; have HB := n2; clear n1 n2)
        | ((with_reducible refine gate_builtin (b := .append) (xs := #[.tmp 12, .tmp 15]) rfl ?_); at_builtin; refine print_append_of sV w.heap.size rfl (.tmp 12) (.tmp 15) 66 9 (.string ⟨#[]⟩) 16 rfl Tryd.underlying66 info9 rfl (by decide) (.slice Av kk cv) (ws.take kk) s rfl rfl rfl HOO.out HB.out HB.out.size HRM.out ?_; intro v1 w4 ho hb hg hat; have n1 := Aside0.mk ho; have n2 := Aside0.mk hb; clear ho hb hg hat HOO HB; have HOO := n1; have HB := n2; clear n1 n2; obtain ⟨A1, c1, rfl⟩ := own_slice HOO.out))
      go_roundg (l.length - (kk + 1))
      case measure => omega
      case rel =>
        refine ⟨kk + 1, _, by omega, by omega, rfl, by go_num, ⟨?_⟩, HB⟩
        have z := HOO.out
        rw [← HSN.out] at z
        rw [show (ws.take (kk + 1)).length = kk + 1 from by rw [HSN.out, List.length_append, HKL.out]; rfl] at z
        rw [show min kk ws.length = kk from by rw [HWL.out]; omega]
        exact z
    · have hltz : decide ((kk : Int) < (l.length : Int)) = false := decide_eq_false (by omega)
      obtain rfl : kk = l.length := by omega
      have he : ws.take l.length = ws := by rw [← HWL.out]; exact List.take_length ..
      have HO1 := HO.out
      rw [he, ← HWL.out] at HO1
      have HIT := Aside0.mk (join_calls _ ws r wr _ HO1 (by have := HLN.out; have := HWL.out; omega) HJ.out)
      rw [HWL.out] at HIT
      clear he HO1
      go_wp2_with (first | (go_at_call 47; refine HIT.out.mono ?_; rintro e w3 ⟨rfl, hb⟩; have n1 := Aside0.mk (below_step HB.out hb); clear hb HB HIT; have HB := n1; clear n1))
      go_ret
      exact ⟨rfl, HB.out⟩
theorem txF_says : ∀ k, TSays (txF k)
  | 0 => fun _ _ _ _ _ _ _ _ h => by cases h
  | k + 1 => joined_of (txF k) (txF_says k)
def impl_StmtsText.f (k : Nat) (l0 : List S49) : Option ByteArray := (impl_StmtsOk.f k l0).bind fun ok => if ok = true then (if l0.length = 0 then some ⟨#[45]⟩ else (txF k l0).bind fun t => some ⟨t.toArray⟩) else some ⟨#[]⟩
set_option maxHeartbeats 1000000 in
theorem impl_StmtsText.callsT (k : Nat) (A0 : Option Addr) (c0 : Nat) (l0 : List S49) (r : ByteArray) (w : World) (hT : Tab w) (hr0 : Kd.C k49 w A0 l0.length l0) (hc0 : l0.length ≤ c0) (h : impl_StmtsText.f k l0 = some r) :
    Calls Tryd.prog 11 #[.slice A0 l0.length c0] w fun e w' => e = .returned (.string r) ∧ Below w.heap.size w w' := by
  obtain ⟨ok, hok, h⟩ := Option.bind_eq_some_iff.1 h
  have HK := Aside0.mk (impl_StmtsOk.calls k A0 c0 l0 ok w hr0 hc0 hok)
  have HC := Aside0.mk hr0
  have HT := Aside0.mk hT
  clear hok hr0 hT
  cases ok with
  | false =>
    rw [if_neg (by decide)] at h
    obtain rfl := Option.some.inj h
    go_enter Tryd.func11, Tryd.ntmps11
    go_wp2_with (first | (go_at_call 10; refine HK.out.mono ?_; rintro e w1 ⟨rfl, hb⟩; have HB := Aside0.mk hb; clear hb HK))
    go_ret
    exact ⟨rfl, HB.out⟩
  | true =>
    rw [if_pos rfl] at h
    by_cases h0 : l0.length = 0
    · rw [if_pos h0] at h
      obtain rfl := Option.some.inj h
      have hz : ((l0.length : Int) == 0) = true := by simpa using h0
      clear h0
      go_enter Tryd.func11, Tryd.ntmps11
      go_wp2_with (first | (go_at_call 10; refine HK.out.mono ?_; rintro e w1 ⟨rfl, hb⟩; have HB := Aside0.mk hb; clear hb HK))
      go_ret
      exact ⟨rfl, HB.out⟩
    · rw [if_neg h0] at h
      obtain ⟨t, ht, h⟩ := Option.bind_eq_some_iff.1 h
      obtain rfl := Option.some.inj h
      have hz : ((l0.length : Int) == 0) = false := by simpa using h0
      have HF := Aside0.mk ht
      clear h0 ht h
      go_enter Tryd.func11, Tryd.ntmps11
      go_wp2_with (first
        | (go_at_call 10; refine HK.out.mono ?_; rintro e w1 ⟨rfl, hb⟩; have HB := Aside0.mk hb; clear hb HK)
        | (go_at_call 27; refine (txF_says k A0 c0 l0 t _ (HT.out.below HB.out) (Kd.C_below HC.out HB.out) hc0 HF.out).mono ?_; rintro e w2 ⟨rfl, hb⟩; unfold sV; have n1 := Aside0.mk (below_step HB.out hb); clear hb HB; have HB := n1; clear n1))
      go_ret
      exact ⟨rfl, HB.out⟩
end Go.Proofs.YtnegnanlbdncmaaDoor.P
