/- The draws' reader: a pick lies below its bound, the place goes on by one; no condition beyond bytes and a place below 10^12. -/
import Derived.Test.YtnegnanlbdncmaaDoorZFnProgSame13
import Derived.Test.YtnegnanlbdncmaaDoorZFnProgSame4
namespace Go.Proofs.YtnegnanlbdncmaaDoor.P
open Go.RowKit Go.Proofs.YtnegnanlbdncmaaDoorW.PrintWords Go.Proofs.YtnegnanlbdncmaaDoorW.PrintMore
theorem tmod_range {x n : Int} (hx : 0 ≤ x) (hn : 0 < n) : 0 ≤ Int.tmod x n ∧ Int.tmod x n < n := ⟨Int.tmod_nonneg _ hx, Int.tmod_lt_of_pos _ hn⟩
theorem pick_ev {xs : List Int} {p n : Int} (hb : Buf xs) (hp0 : 0 ≤ p) (hp : p ≤ 1000000000000) :
    ∃ v, Ev (fun k => spec_l11Rd_pick.f k xs p n) (v, p + 1) ∧ (1 ≤ n → 0 ≤ v ∧ v < n) ∧ (n < 1 → v = 0) := by
  have hw : wrap64 (p + 1) = p + 1 := wrap_id (by omega) (by omega)
  have hw1 : wrap64 (p + 1 - 1) = p := by rw [wrap_id (by omega) (by omega)]; omega
  by_cases hn : n < 1
  · refine ⟨0, ?_, fun h => absurd h (by omega), fun _ => rfl⟩
    unfold spec_l11Rd_pick.f
    refine Evs.ite_pos hn (Evs.succ (f := fun _ => some (0, p + 1)) (fun k => ?_) (Evs.some_ _))
    simp only [spec_l11Rd_pick.j0]
    rw [if_pos trivial, hw]
  · by_cases h0 : xs.length = 0
    · refine ⟨0, ?_, fun h => ⟨by omega, by omega⟩, fun _ => rfl⟩
      unfold spec_l11Rd_pick.f
      refine Evs.ite_neg hn (Evs.succ (f := fun _ => some (0, p + 1)) (fun k => ?_) (Evs.some_ _))
      simp only [spec_l11Rd_pick.j0]
      rw [if_pos (by simp [h0]), hw]
    · have hl : 0 < (xs.length : Int) := by omega
      have hl2 : (xs.length : Int) ≤ 2000 := by have := hb.1; omega
      have hne : ((xs.length : Int) == 0) = false := by simp; intro e; rw [e] at h0; simp at h0
      have byte : ∀ i : Int, 0 ≤ i → i < (xs.length : Int) → 0 ≤ rd xs i ∧ rd xs i ≤ 255 := fun i a b => rd_all hb.2 a b
      by_cases hlt : p < (xs.length : Int)
      · obtain ⟨b0, b1⟩ := byte p hp0 hlt
        refine ⟨Int.tmod (rd xs p) n, ?_, fun h => tmod_range b0 (by omega), fun h => absurd h (by omega)⟩
        unfold spec_l11Rd_pick.f
        refine Evs.ite_neg hn (Evs.succ (f := fun _ => some (Int.tmod (rd xs p) n, p + 1)) (fun k => ?_) (Evs.some_ _))
        rw [hne]
        simp only [spec_l11Rd_pick.j0, hw, hw1]
        rw [if_neg (by simp), if_pos hlt, if_pos hp0, if_neg (by omega), wrap_id (by omega) (by omega)]
      · obtain ⟨i0, i1⟩ := tmod_range hp0 hl
        have e7 : wrap64 (wrap64 (p * 7) + 3) = p * 7 + 3 := by rw [wrap_id (n := p * 7) (by omega) (by omega), wrap_id (by omega) (by omega)]
        obtain ⟨j0, j1⟩ := tmod_range (x := p * 7 + 3) (n := (xs.length : Int)) (by omega) hl
        obtain ⟨b0, b1⟩ := byte _ i0 i1
        obtain ⟨c0, c1⟩ := byte _ j0 j1
        have ed : wrap64 (Int.tdiv p (xs.length : Int)) = p / (xs.length : Int) := by
          rw [Int.tdiv_eq_ediv_of_nonneg hp0]
          have h1 : 0 ≤ p / (xs.length : Int) := Int.ediv_nonneg hp0 (by omega)
          have h2 : p / (xs.length : Int) ≤ p := Int.ediv_le_self _ hp0
          exact wrap_id (by omega) (by omega)
        have hd0 : 0 ≤ p / (xs.length : Int) := Int.ediv_nonneg hp0 (by omega)
        have hd1 : p / (xs.length : Int) ≤ p := Int.ediv_le_self _ hp0
        have X : ∃ X : Int, X = rd xs (Int.tmod p (xs.length : Int)) * 131 + rd xs (Int.tmod (p * 7 + 3) (xs.length : Int)) * 1117 + p * 29 + p / (xs.length : Int) * 53 := ⟨_, rfl⟩
        obtain ⟨X, hX⟩ := X
        have hX0 : 0 ≤ X := by omega
        have hX1 : X < 9223372036854775808 := by omega
        refine ⟨Int.tmod (Go.bits .xor .i64 X (X / 64)) n, ?_, fun h => tmod_range (xor_range hX0 hX1 (by omega) (by omega)) (by omega), fun h => absurd h (by omega)⟩
        unfold spec_l11Rd_pick.f
        refine Evs.ite_neg hn (Evs.succ (f := fun _ => some (Int.tmod (Go.bits .xor .i64 X (X / 64)) n, p + 1)) (fun k => ?_) (Evs.some_ _))
        rw [hne]
        simp only [spec_l11Rd_pick.j0, hw, hw1, e7, ed]
        rw [if_neg (by simp), if_neg (by omega), if_neg (by omega), if_pos i0, if_pos i1, if_pos j0, if_pos j1, if_neg (by omega)]
        generalize hR : rd xs (Int.tmod p (xs.length : Int)) = R at *
        generalize hS : rd xs (Int.tmod (p * 7 + 3) (xs.length : Int)) = S at *
        generalize hD : p / (xs.length : Int) = D at *
        have e1 : wrap64 (wrap64 R * 131) = R * 131 := by rw [wrap_id (n := R) (by omega) (by omega), wrap_id (by omega) (by omega)]
        have e2 : wrap64 (wrap64 S * 1117) = S * 1117 := by rw [wrap_id (n := S) (by omega) (by omega), wrap_id (by omega) (by omega)]
        have e3 : wrap64 (p * 29) = p * 29 := wrap_id (by omega) (by omega)
        have e4 : wrap64 (D * 53) = D * 53 := wrap_id (by omega) (by omega)
        have e5 : wrap64 (R * 131 + S * 1117) = R * 131 + S * 1117 := wrap_id (by omega) (by omega)
        have e6 : wrap64 (R * 131 + S * 1117 + p * 29) = R * 131 + S * 1117 + p * 29 := wrap_id (by omega) (by omega)
        have e8 : wrap64 (R * 131 + S * 1117 + p * 29 + D * 53) = X := by rw [hX]; exact wrap_id (by omega) (by omega)
        simp only [e1, e2, e3, e4, e5, e6, e8]
        have e9 : wrap64 (Int.tdiv X 64) = X / 64 := by rw [Int.tdiv_eq_ediv_of_nonneg hX0]; exact wrap_id (by omega) (by omega)
        rw [e9]
theorem num_ev {xs : List Int} {p : Int} {l : List Int} (hb : Buf xs) (hp0 : 0 ≤ p) (hp : p ≤ 1000000000000) (hl : l ≠ []) (hll : l.length ≤ 1000) :
    ∃ v, v ∈ l ∧ Ev (fun k => spec_l11Rd_num.f k xs p l) (v, p + 1) := by
  have h1 : 1 ≤ (l.length : Int) := by
    have := List.length_pos_iff.2 hl
    omega
  obtain ⟨v, hv, hr, _⟩ := pick_ev (n := (l.length : Int)) hb hp0 hp
  obtain ⟨r0, r1⟩ := hr h1
  refine ⟨rd l v, rd_all (p := fun x => x ∈ l) (fun x hx => hx) r0 r1, ?_⟩
  unfold spec_l11Rd_num.f
  refine Evs.bind hv ?_
  exact Evs.ite_pos r0 (Evs.ite_pos r1 (Evs.some_ _))
theorem open_eq (xs : List Int) : ∃ ys, spec_l11Open.f xs = some (ys, 0) ∧ ((∀ x ∈ xs, (Lit.int .u8 x).wf = true) → Buf ys) := by
  unfold spec_l11Open.f
  by_cases h : (xs.length : Int) > 2000
  · rw [if_pos h, if_pos (by omega)]
    exact ⟨_, rfl, fun hw => take_buf hw⟩
  · rw [if_neg h]
    exact ⟨_, rfl, fun hw => buf_of_wf (by omega) hw⟩
end Go.Proofs.YtnegnanlbdncmaaDoor.P
