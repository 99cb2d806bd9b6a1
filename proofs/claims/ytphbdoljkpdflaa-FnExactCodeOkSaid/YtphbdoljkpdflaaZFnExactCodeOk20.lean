/- Parts of the proof of FnExactCodeOk: plain Lean functions of Go functions, and that the calls come to what they say; no condition beyond those that each theorem names. -/
import Derived.Test.YtphbdoljkpdflaaZFnExactCodeOk15
import Derived.Test.YtphbdoljkpdflaaZFnExactCodeOk18
import Derived.Test.YtphbdoljkpdflaaZFnExactCodeOk9
import Derived.Test.YtphbdoljkpdflaaZFnExactCodeOk19
namespace Go.Proofs.Ytphbdoljkpdflaa.P
open Go.RowKit Go.Proofs.YtphbdoljkpdflaaW.PrintWords Go.Proofs.YtphbdoljkpdflaaW.PrintMore
set_option linter.unusedVariables false
set_option linter.unusedSimpArgs false
end Go.Proofs.Ytphbdoljkpdflaa.P

namespace Go.Proofs.Ytphbdoljkpdflaa.P
open Go.RowKit Go.Proofs.YtphbdoljkpdflaaW.PrintWords Go.Proofs.YtphbdoljkpdflaaW.PrintMore
set_option linter.unusedVariables false
set_option linter.unusedSimpArgs false
def PT (h : List S42) (q : List (Nat × Nat)) (c : List S42) (p : Nat) : Prop := ∀ (pre post : List S42) (rest : List (Nat × Nat)), pre.length = p → ptB (q ++ rest) (pre ++ (h ++ post)) = ptB rest (pre ++ (c ++ post))
theorem PT.refl (h : List S42) (p : Nat) : PT h [] h p := fun _ _ _ _ => rfl
theorem PT.seq {h c e : List S42} {q r : List (Nat × Nat)} {p : Nat} (a : PT h q c p) (b : PT c r e p) : PT h (q ++ r) e p := fun pre post rest hp => by
  rw [List.append_assoc, a pre post _ hp, b pre post _ hp]
theorem PT.front {h c : List S42} {q : List (Nat × Nat)} {p m : Nat} (x : List S42) (a : PT h q c m) (hm : m = p + x.length) : PT (x ++ h) q (x ++ c) p := fun pre post rest hp => by
  have := a (pre ++ x) post rest (by rw [List.length_append]; omega)
  simpa [List.append_assoc] using this
theorem PT.back {h c : List S42} {q : List (Nat × Nat)} {p : Nat} (a : PT h q c p) (y : List S42) : PT (h ++ y) q (c ++ y) p := fun pre post rest hp => by
  have := a pre (y ++ post) rest hp
  simpa [List.append_assoc] using this
theorem PT.set (i : S42) (p t : Nat) : PT [i] [(p, t)] [⟨i.f0, i.f1, i.f2, (t : Int)⟩] p := fun pre post rest hp => by
  subst hp
  have e0 : ∀ c : List S42, ptB ((pre.length, t) :: rest) c = if pre.length < c.length then ptB rest (c.set pre.length ⟨(rd_T42 c (pre.length : Int)).f0, (rd_T42 c (pre.length : Int)).f1, (rd_T42 c (pre.length : Int)).f2, (t : Int)⟩) else none := fun _ => rfl
  show ptB ((pre.length, t) :: rest) (pre ++ ([i] ++ post)) = _
  rw [e0]
  have e : rd_T42 (pre ++ ([i] ++ post)) ((pre.length : Nat) : Int) = i := by
    unfold rd_T42
    rw [Int.toNat_natCast, List.getD_eq_getElem?_getD, List.getElem?_append_right (Nat.le_refl _)]
    simp
  rw [if_pos (by simp)]
  simp only [e]
  rw [List.set_append_right _ _ (Nat.le_refl _)]
  simp
def Cmp1 (F : Nat → Cm → Option Cm) (c : Nat → List S42) (n : Nat) : Prop :=
  ∀ s : Cm, s.1.length + 2 * n ≤ 1000 → s.2.length + 2 * n ≤ 1000 → ∃ h q, Ev (fun k => F k s) (s.1 ++ h, s.2 ++ q) ∧ h.length = (c s.1.length).length ∧ q.length ≤ 2 * n ∧ PT h q (c s.1.length) s.1.length
def codeV (l : List S46) : List S42 := if okLst l = true then codF l else []
end Go.Proofs.Ytphbdoljkpdflaa.P
