/- A law's numbers, sayings and lists of numbers that are not too large: sized, copied, equal to themselves; comparisons of numbers; what one said; no condition but the lengths. -/
import Derived.Test.YthbflhimmmfonaaLoops
import Derived.Test.YthbflhimmmfonaaFLawsSzTo
import Derived.Test.YthbflhimmmfonaaFLawsEqs
import Derived.Test.YthbflhimmmfonaaTreeW
namespace Go.Proofs.Ythbflhimmmfonaa.P
open Go.RowKit Go.Proofs.YthbflhimmmfonaaW.PrintWords Go.Proofs.YthbflhimmmfonaaW.PrintMore
set_option linter.unusedVariables false
set_option linter.unusedSimpArgs false
theorem rd_get {l : List Int} {i : Nat} (h : i < l.length) : rd l (i : Int) = l.getD i 0 := by
  unfold rd
  rw [Int.toNat_natCast]
def Left (m : Int) (p : Prop) (r : Int) : Prop := r < 0 ∨ (0 ≤ r ∧ r ≤ m ∧ p)
theorem szI (l : List Int) (hl : l.length ≤ 9223372036854775807) (m : Int) (h0 : 0 ≤ m) (h1 : m ≤ 1048576) : ∃ r, laws_szIntS.f l m = some r ∧ Left m (l.length ≤ 1048576) r := by
  have ew : wrap64 (m - (l.length : Int)) = m - (l.length : Int) := wrap_id (by omega) (by omega)
  unfold laws_szIntS.f
  rw [ew]
  by_cases c : m - (l.length : Int) < 0
  · exact ⟨-1, if_pos c, .inl (by omega)⟩
  · exact ⟨_, if_neg c, .inr ⟨by omega, by omega, by omega⟩⟩
theorem szSays (l : List S112) (hl : l.length ≤ 9223372036854775807) (m : Int) (h0 : 0 ≤ m) (h1 : m ≤ 1048576) : ∃ r, laws_szSayS.f l m = some r ∧ Left m (l.length ≤ 1048576) r := by
  have ew : wrap64 (m - (l.length : Int)) = m - (l.length : Int) := wrap_id (by omega) (by omega)
  unfold laws_szSayS.f
  rw [ew]
  by_cases c : m - (l.length : Int) < 0
  · exact ⟨-1, if_pos c, .inl (by omega)⟩
  · exact ⟨_, if_neg c, .inr ⟨by omega, by omega, by omega⟩⟩
theorem toI (l : List Int) (hl : l.length ≤ 1048576) : Ev (fun k => laws_toIntS.f k l) l := by
  unfold laws_toIntS.f
  refine Evs.ite_pos (by omega) (Evs.ite_pos (by omega) ?_)
  rw [Int.toNat_natCast]
  have q := map_loop (fun k acc i => laws_toIntS.l0 k l acc i) l 0 0 id (fun i acc r hi ha hr => ?_) (fun acc ha => ?_)
  · rwa [List.map_id] at q
  · refine Evs.succ (fun k => by simp only [laws_toIntS.l0]; rfl) ?_
    refine Evs.ite_pos (by omega) (Evs.ite_pos (by omega) (Evs.ite_pos (by omega) ?_))
    rw [wrap_succ (by omega), rd_get hi, Int.toNat_natCast]
    exact hr
  · refine Evs.succ (fun k => by simp only [laws_toIntS.l0]; rfl) ?_
    exact Evs.ite_neg (by omega) (Evs.some_ _)
theorem eqI (l : List Int) (hl : l.length ≤ 1048576) : Ev (fun k => laws_eqIntS.f k l l) true := by
  unfold laws_eqIntS.f
  refine Evs.ite_pos (by trivial) (all_true_loop (fun k i => laws_eqIntS.l0 k l l i) l.length (fun i r hi hr => ?_) ?_)
  · refine Evs.succ (fun k => by simp only [laws_eqIntS.l0]; rfl) ?_
    refine Evs.ite_pos (by omega) (Evs.ite_pos (by omega) (Evs.ite_pos (by omega) (Evs.ite_pos (by trivial) ?_)))
    rw [wrap_succ (by omega)]
    exact hr
  · refine Evs.succ (fun k => by simp only [laws_eqIntS.l0]; rfl) ?_
    exact Evs.ite_neg (by omega) (Evs.some_ _)
def sayOf (x : S112) : S74 := ⟨x.f0, x.f1⟩
theorem toSays (l : List S112) (hl : l.length ≤ 1048576) : Ev (fun k => laws_toSayS.f k l) (l.map sayOf) := by
  unfold laws_toSayS.f
  refine Evs.ite_pos (by omega) (Evs.ite_pos (by omega) ?_)
  rw [Int.toNat_natCast]
  refine map_loop (fun k acc i => laws_toSayS.l0 k l acc i) l z112 _ sayOf (fun i acc r hi ha hr => ?_) (fun acc ha => ?_)
  · refine Evs.succ (fun k => by simp only [laws_toSayS.l0]; rfl) ?_
    refine Evs.ite_pos (by omega) (Evs.ite_pos (by omega) (Evs.bind0 rfl (Evs.ite_pos (by omega) ?_)))
    rw [wrap_succ (by omega)]
    unfold rd_T112
    rw [Int.toNat_natCast]
    exact hr
  · refine Evs.succ (fun k => by simp only [laws_toSayS.l0]; rfl) ?_
    exact Evs.ite_neg (by omega) (Evs.some_ _)
theorem eqSays (l : List S74) (hl : l.length ≤ 1048576) : Ev (fun k => laws_eqSayS.f k l l) true := by
  unfold laws_eqSayS.f
  refine Evs.ite_pos (by trivial) (all_true_loop (fun k i => laws_eqSayS.l0 k l l i) l.length (fun i r hi hr => ?_) ?_)
  · refine Evs.succ (fun k => by simp only [laws_eqSayS.l0]; rfl) ?_
    refine Evs.ite_pos (by omega) (Evs.ite_pos (by omega) (Evs.ite_pos (by omega) (Evs.bind0 (b := true) (by unfold laws_eqSay.f; rw [if_pos rfl, if_pos rfl]) (Evs.ite_pos rfl ?_))))
    rw [wrap_succ (by omega)]
    exact hr
  · refine Evs.succ (fun k => by simp only [laws_eqSayS.l0]; rfl) ?_
    exact Evs.ite_neg (by omega) (Evs.some_ _)
def Rows1 (l : List (List Int)) : Prop := l.length ≤ 1048576 ∧ ∀ x ∈ l, x.length ≤ 1048576
theorem getL {l : List (List Int)} {i : Nat} (h : i < l.length) : l.getD i [] ∈ l := by
  rw [List.getD_eq_getElem?_getD, List.getElem?_eq_getElem h]
  exact List.getElem_mem h
theorem szII_loop (l : List (List Int)) (hl : l.length ≤ 1048576) (hb : ∀ x ∈ l, x.length ≤ 9223372036854775807) (d : Nat) : ∀ (i : Nat) (m : Int), i + d = l.length → 0 ≤ m → m ≤ 1048576 →
    ∃ r : Int, Ev (fun k => laws_szIntSS.l0 k l m (i : Int)) r ∧ Left m (∀ j : Nat, i ≤ j → j < l.length → (l.getD j []).length ≤ 1048576) r := by
  induction d with
  | zero =>
    intro i m hi h0 h1
    refine ⟨m, ?_, .inr ⟨h0, Int.le_refl _, fun j h1 h2 => absurd h2 (by omega)⟩⟩
    refine Evs.succ (fun k => by simp only [laws_szIntSS.l0]; rfl) ?_
    exact Evs.ite_neg (by omega) (Evs.some_ _)
  | succ d ih =>
    intro i m hi h0 h1
    have hlt : i < l.length := by omega
    obtain ⟨r, hr, c⟩ := szI (l.getD (i : Int).toNat []) (by rw [Int.toNat_natCast]; exact hb _ (getL hlt)) m h0 h1
    rcases c with c | ⟨c0, c1, c2⟩
    · refine ⟨-1, ?_, .inl (by omega)⟩
      refine Evs.succ (fun k => by simp only [laws_szIntSS.l0]; rfl) ?_
      exact Evs.ite_pos (by omega) (Evs.ite_pos (by omega) (Evs.bind0 hr (Evs.ite_pos c (Evs.some_ _))))
    · obtain ⟨q, hq, e⟩ := ih (i + 1) r (by omega) c0 (by omega)
      refine ⟨q, ?_, ?_⟩
      · refine Evs.succ (fun k => by simp only [laws_szIntSS.l0]; rfl) ?_
        refine Evs.ite_pos (by omega) (Evs.ite_pos (by omega) (Evs.bind0 hr (Evs.ite_neg (by omega) ?_)))
        rw [wrap_succ (by omega)]
        exact hq
      · rcases e with e | ⟨e0, e1, e2⟩
        · exact .inl e
        · refine .inr ⟨e0, by omega, fun j h1 h2 => ?_⟩
          by_cases hj : j = i
          · rw [hj]
            rwa [Int.toNat_natCast] at c2
          · exact e2 j (by omega) h2
theorem szII (l : List (List Int)) (hl : l.length ≤ 9223372036854775807) (hb : ∀ x ∈ l, x.length ≤ 9223372036854775807) (m : Int) (h0 : 0 ≤ m) (h1 : m ≤ 1048576) : ∃ r : Int, Ev (fun k => laws_szIntSS.f k l m) r ∧ Left m (Rows1 l) r := by
  have ew : wrap64 (m - (l.length : Int)) = m - (l.length : Int) := wrap_id (by omega) (by omega)
  unfold laws_szIntSS.f
  rw [ew]
  by_cases c : m - (l.length : Int) < 0
  · exact ⟨-1, Evs.ite_pos c (Evs.some_ _), .inl (by omega)⟩
  · obtain ⟨r, hr, e⟩ := szII_loop l (by omega) hb l.length 0 (m - (l.length : Int)) (by omega) (by omega) (by omega)
    refine ⟨r, Evs.ite_neg c hr, ?_⟩
    rcases e with e | ⟨e0, e1, e2⟩
    · exact .inl e
    · refine .inr ⟨e0, by omega, by omega, fun x hx => ?_⟩
      obtain ⟨i, hi, rfl⟩ := List.mem_iff_getElem.1 hx
      have := e2 i (by omega) hi
      rwa [List.getD_eq_getElem?_getD, List.getElem?_eq_getElem hi] at this
theorem toII (l : List (List Int)) (h : Rows1 l) : Ev (fun k => laws_toIntSS.f k l) l := by
  have hl := h.1
  unfold laws_toIntSS.f
  refine Evs.ite_pos (by omega) (Evs.ite_pos (by omega) ?_)
  rw [Int.toNat_natCast]
  have q := map_loop (fun k acc i => laws_toIntSS.l0 k l acc i) l [] [] id (fun i acc r hi ha hr => ?_) (fun acc ha => ?_)
  · rwa [List.map_id] at q
  · have t := toI (l.getD (i : Int).toNat []) (by rw [Int.toNat_natCast]; exact h.2 _ (getL hi))
    refine Evs.succ (fun k => by simp only [laws_toIntSS.l0]; rfl) ?_
    refine Evs.ite_pos (by omega) (Evs.ite_pos (by omega) (Evs.bind t (Evs.ite_pos (by omega) ?_)))
    rw [wrap_succ (by omega), Int.toNat_natCast]
    exact hr
  · refine Evs.succ (fun k => by simp only [laws_toIntSS.l0]; rfl) ?_
    exact Evs.ite_neg (by omega) (Evs.some_ _)
theorem eqII (l : List (List Int)) (h : Rows1 l) : Ev (fun k => laws_eqIntSS.f k l l) true := by
  have hl := h.1
  unfold laws_eqIntSS.f
  refine Evs.ite_pos (by trivial) (all_true_loop (fun k i => laws_eqIntSS.l0 k l l i) l.length (fun i r hi hr => ?_) ?_)
  · have t := eqI (l.getD (i : Int).toNat []) (by rw [Int.toNat_natCast]; exact h.2 _ (getL hi))
    refine Evs.succ (fun k => by simp only [laws_eqIntSS.l0]; rfl) ?_
    refine Evs.ite_pos (by omega) (Evs.ite_pos (by omega) (Evs.ite_pos (by omega) (Evs.bind t (Evs.ite_pos rfl ?_))))
    rw [wrap_succ (by omega)]
    exact hr
  · refine Evs.succ (fun k => by simp only [laws_eqIntSS.l0]; rfl) ?_
    exact Evs.ite_neg (by omega) (Evs.some_ _)
end Go.Proofs.Ythbflhimmmfonaa.P
