/- The program's SaidBy is the reference's, in new memory, and leaves its argument as it was, for every list and number; no condition. -/
import Derived.Test.YtjplcmffdhngmaaSFnExactSaidBy
import Derived.Test.YtjplcmffdhngmaaLoops
import Derived.Test.YtjplcmffdhngmaaIntEq
import Derived.Test.YtjplcmffdhngmaaIntMark
namespace Go.Proofs.Ytjplcmffdhngmaa.Pure
open Go.RowKit Go.Proofs.Ytjplcmffdhngmaa.P Go.Proofs.YtjplcmffdhngmaaW.PrintWords Go.Proofs.YtjplcmffdhngmaaW.PrintLast

open Go.Proofs.Ytjplcmffdhngmaa.P Go.Proofs.YtjplcmffdhngmaaW.PrintMore
def toY (x : S71) : S69 := ⟨x.f0, x.f1⟩
theorem toSayS_ev (l : List S71) (hl : l.length ≤ 1048576) : Ev (fun k => laws_toSayS.f k l) (l.map toY) := by
  unfold laws_toSayS.f
  refine Evs.ite_pos (by omega) (Evs.ite_pos (by omega) ?_)
  rw [Int.toNat_natCast]
  refine map_loop (fun k acc i => laws_toSayS.l0 k l acc i) l z71 _ toY (fun i acc r hi ha h => ?_) (fun acc ha => ?_)
  · refine Evs.succ (fun k => by simp only [laws_toSayS.l0]; rfl) ?_
    refine Evs.ite_pos (by omega) (Evs.ite_pos (by omega) (Evs.bind0 rfl (Evs.ite_pos (by omega) ?_)))
    rw [wrap_succ (by omega), Int.toNat_natCast]
    exact h
  · refine Evs.succ (fun k => by simp only [laws_toSayS.l0]; rfl) ?_
    exact Evs.ite_neg (by omega) (Evs.some_ _)
theorem eqSayS_refl (l : List S69) (hl : l.length ≤ 1048576) : Ev (fun k => laws_eqSayS.f k l l) true := by
  unfold laws_eqSayS.f
  refine Evs.ite_pos rfl ?_
  refine all_true_loop (fun k i => laws_eqSayS.l0 k l l i) l.length (fun i r hi h => ?_) ?_
  · refine Evs.succ (fun k => by simp only [laws_eqSayS.l0]; rfl) ?_
    refine Evs.ite_pos (by omega) (Evs.ite_pos (by omega) (Evs.ite_pos (by omega) (Evs.bind0 (b := true) (by simp [laws_eqSay.f]) (Evs.ite_pos rfl ?_))))
    rw [wrap_succ (by omega)]
    exact h
  · refine Evs.succ (fun k => by simp only [laws_eqSayS.l0]; rfl) ?_
    exact Evs.ite_neg (by omega) (Evs.some_ _)
/-- What one said. -/
def saidBy (l : List S69) (who : Int) (n : Nat) : List Int := (List.range n).foldl (fun acc (i : Nat) => if (rd_T69 l (i : Int)).f0 = who then acc ++ [(rd_T69 l (i : Int)).f1] else acc) []
theorem saidBy_le (l : List S69) (who : Int) (n : Nat) : (saidBy l who n).length ≤ n := by
  unfold saidBy
  induction n with
  | zero => simp
  | succ n ih =>
    rw [List.range_succ, List.foldl_append, List.foldl_cons, List.foldl_nil]
    split
    · simp; omega
    · omega
theorem specSaid_ev (l : List S69) (who : Int) (hl : l.length ≤ 1048576) : Ev (fun k => spec_SaidBy.f k l who) (saidBy l who l.length) := by
  refine fold_loop (fun k acc i => spec_SaidBy.l0 k l who acc i) l.length (fun (i : Nat) acc => if (rd_T69 l (i : Int)).f0 = who then acc ++ [(rd_T69 l (i : Int)).f1] else acc) (fun i acc => acc.length ≤ i) (fun acc => acc)
    (fun i acc r hi ha h => ?_) (fun i acc hi ha => ?_) (fun acc ha => ?_) [] (by simp)
  · refine Evs.succ (fun k => by simp only [spec_SaidBy.l0]; rfl) ?_
    refine Evs.ite_pos (by omega) (Evs.ite_pos (by omega) ?_)
    rw [wrap_succ (by omega)]
    by_cases c : (rd_T69 l (i : Int)).f0 = who
    · rw [if_pos c] at h
      exact Evs.ite_pos c (Evs.ite_pos (by omega) h)
    · rw [if_neg c] at h
      exact Evs.ite_neg c h
  · split
    · simp; omega
    · omega
  · refine Evs.succ (fun k => by simp only [spec_SaidBy.l0]; rfl) ?_
    exact Evs.ite_neg (by omega) (Evs.some_ _)
theorem implSaid_ev (l : List S69) (who : Int) (hl : l.length ≤ 1048576) : Ev (fun k => impl_SaidBy.f k l who) (saidBy l who l.length) := by
  refine fold_loop (fun k acc i => impl_SaidBy.l0 k who acc l l.length i) l.length (fun (i : Nat) acc => if (rd_T69 l (i : Int)).f0 = who then acc ++ [(rd_T69 l (i : Int)).f1] else acc) (fun i acc => acc.length ≤ i) (fun acc => acc)
    (fun i acc r hi ha h => ?_) (fun i acc hi ha => ?_) (fun acc ha => ?_) [] (by simp)
  · refine Evs.succ (fun k => by simp only [impl_SaidBy.l0]; rfl) ?_
    refine Evs.ite_pos (by omega) (Evs.ite_pos (by omega) (Evs.ite_pos (by omega) ?_))
    rw [wrap_succ (by omega)]
    by_cases c : (rd_T69 l (i : Int)).f0 = who
    · rw [if_pos c] at h
      exact Evs.ite_pos c (Evs.ite_pos (by omega) h)
    · rw [if_neg c] at h
      exact Evs.ite_neg c h
  · split
    · simp; omega
    · omega
  · refine Evs.succ (fun k => by simp only [impl_SaidBy.l0]; rfl) ?_
    exact Evs.ite_neg (by omega) (Evs.some_ _)
theorem markSayS_ev (l : List S69) (hl : l.length ≤ 1048576) : ∃ m l', 0 ≤ m ∧ Ev (fun k => laws_markSayS.f k l 1) (m, l') := by
  have := fold_loop (fun k (s : List S69 × Int) i => laws_markSayS.l0 k s.1 s.2 i) l.length
    (fun (i : Nat) s => ((s.1.set i ⟨s.2, (rd_T69 s.1 (i : Int)).f1⟩).set i ⟨(rd_T69 (s.1.set i ⟨s.2, (rd_T69 s.1 (i : Int)).f1⟩) (i : Int)).f0, s.2 + 1⟩, s.2 + 1 + 1))
    (fun i s => s.1.length = l.length ∧ 0 ≤ s.2 ∧ s.2 ≤ 1 + 2 * (i : Int)) (fun s => (s.2, s.1)) (fun i s r hi ha h => ?_) (fun i s hi ha => ?_) (fun s ha => ?_) (l, 1) ⟨rfl, by simp, by simp⟩
  · obtain ⟨s, hs⟩ : ∃ s, s = (List.range l.length).foldl (fun (s : List S69 × Int) (i : Nat) => ((s.1.set i ⟨s.2, (rd_T69 s.1 (i : Int)).f1⟩).set i ⟨(rd_T69 (s.1.set i ⟨s.2, (rd_T69 s.1 (i : Int)).f1⟩) (i : Int)).f0, s.2 + 1⟩, s.2 + 1 + 1)) (l, (1 : Int)) := ⟨_, rfl⟩
    refine ⟨s.2, s.1, ?_, by rw [hs]; exact this⟩
    have inv : ∀ n, 0 ≤ ((List.range n).foldl (fun (s : List S69 × Int) (i : Nat) => ((s.1.set i ⟨s.2, (rd_T69 s.1 (i : Int)).f1⟩).set i ⟨(rd_T69 (s.1.set i ⟨s.2, (rd_T69 s.1 (i : Int)).f1⟩) (i : Int)).f0, s.2 + 1⟩, s.2 + 1 + 1)) (l, (1 : Int))).2 := by
      intro n
      induction n with
      | zero => simp
      | succ n ih =>
        rw [List.range_succ, List.foldl_append, List.foldl_cons, List.foldl_nil]
        simp only
        omega
    rw [hs]
    exact inv _
  · obtain ⟨h1, h2, h3⟩ := ha
    refine Evs.succ (fun k => by simp only [laws_markSayS.l0]; rfl) ?_
    refine Evs.ite_pos (by omega) (Evs.ite_pos (by omega) (Evs.bind0 rfl ?_))
    rw [wrap_succ (by omega), Int.toNat_natCast, wrap_id (n := s.2 + 1) (by omega) (by omega), wrap_id (n := s.2 + 1 + 1) (by omega) (by omega)]
    exact h
  · obtain ⟨h1, h2, h3⟩ := ha
    exact ⟨by simp [h1], by simp only; omega, by simp only; omega⟩
  · obtain ⟨h1, h2, h3⟩ := ha
    refine Evs.succ (fun k => by simp only [laws_markSayS.l0]; rfl) ?_
    exact Evs.ite_neg (by omega) (Evs.some_ _)
theorem szSayS_eq (l : List S71) (m : Int) (hl : l.length ≤ 9223372036854775807) (h0 : 0 ≤ m) (h1 : m ≤ 1048576) : ∃ r, laws_szSayS.f l m = some r ∧ (r < 0 ∨ (l.length ≤ 1048576 ∧ 0 ≤ r ∧ r ≤ m)) := by
  unfold laws_szSayS.f
  rw [wrap_id (by omega) (by omega)]
  by_cases h : m - (l.length : Int) < 0
  · exact ⟨-1, by rw [if_pos h], .inl (by omega)⟩
  · exact ⟨m - l.length, by rw [if_neg h], .inr ⟨by omega, by omega, by omega⟩⟩
theorem FnExactSaidBy : laws_FnExactSaidBy.Pure := by
  intro l who hl _
  refine Ev.rounds (g := fun k => laws_FnExactSaidBy.f k l who) ?_
  unfold laws_FnExactSaidBy.f
  obtain ⟨r, hr, c⟩ := szSayS_eq l 1048576 hl (by omega) (by omega)
  refine Evs.bind0 hr ?_
  rcases c with c | ⟨c0, c1, c2⟩
  · exact Evs.ite_pos c (Evs.some_ _)
  have la : (l.map toY).length ≤ 1048576 := by simpa using c0
  have t := toSayS_ev l c0
  have ss := specSaid_ev (l.map toY) who la
  have si := implSaid_ev (l.map toY) who la
  have le := saidBy_le (l.map toY) who (l.map toY).length
  have eqr := eqIntS_ev (saidBy (l.map toY) who (l.map toY).length) (saidBy (l.map toY) who (l.map toY).length) (by omega)
  rw [decide_eq_true rfl] at eqr
  obtain ⟨m, l', hm, hmk⟩ := markSayS_ev (l.map toY) la
  have mj := markIntS_ev (saidBy (l.map toY) who (l.map toY).length) 1 (by omega) (by omega)
  have hh := heldIntS_ev 1 (saidBy (l.map toY) who (l.map toY).length).length (by omega) (by omega)
  refine Evs.ite_neg (by omega) (Evs.bind t (Evs.bind ss (Evs.bind t (Evs.bind si (Evs.bind eqr (Evs.ite_pos rfl (Evs.bind t (Evs.bind (eqSayS_refl _ la) (Evs.ite_pos rfl (Evs.bind hmk (Evs.ite_neg (by simp only; omega) (Evs.bind eqr ?_))))))))))))
  refine Evs.succ (fun k => by simp only [laws_FnExactSaidBy.j0]; rfl) ?_
  exact Evs.ite_neg (by simp) (Evs.bind mj (Evs.bind hh (Evs.ite_neg (by omega) (Evs.ite_pos rfl (Evs.bind t (Evs.bind si (Evs.bind eqr (Evs.ite_pos rfl (Evs.bind hh (Evs.ite_neg (by omega) (Evs.ite_pos rfl (Evs.some_ _))))))))))))

end Go.Proofs.Ytjplcmffdhngmaa.Pure
