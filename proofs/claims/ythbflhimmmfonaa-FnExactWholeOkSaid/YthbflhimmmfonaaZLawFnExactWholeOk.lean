/- The law FnExactWholeOk: for every input the call returns true and the arguments read as before; written by a program of this workplace (wip/gen.py) out of the translation; no condition beyond those that each theorem names. -/
import Derived.Test.YthbflhimmmfonaaRows
import Derived.Test.YthbflhimmmfonaaZFnExactWholeOk10
import Derived.Test.YthbflhimmmfonaaZFnExactWholeOk11
import Derived.Test.YthbflhimmmfonaaZFnExactWholeOk14
import Derived.WalkKit
import Derived.ProofKit
import Derived.OpenShut
import Derived.ShutString
import Derived.ChangeOld
import Derived.Below
import Derived.SizedLaws
namespace Go.Proofs.Ythbflhimmmfonaa.fnExactWholeOk
open Go.ChangeShapes Go.WideShapes Go.ChangeAt Go.RowKit Go.Proofs.Ythbflhimmmfonaa.P Go.Proofs.YthbflhimmmfonaaW.PrintWords
open Go.ChangeMaps (open_string shut_string)
set_option linter.unusedVariables false
theorem own : ownKnob Try.prog.godebug = none := by kernel_rfl
theorem laidOut : laidOutB Try.prog = true := by kernel_rfl
set_option maxRecDepth 100000 in
theorem lifted (os : Os) (started : os.Started) (H : Type) (enc : TypeId × Value → H) :
    ReturnsInHanded {} Try.checked os 8 .any (Rows.fnExactWholeOkSpec.pre6 enc Try.prog Try.f8 Rows.fnExactWholeOkRow.domain false) (Rows.fnExactWholeOkSpec.post enc Try.prog Try.f8 false true false false) := by
  refine returnsInHanded_of_change_sized (C := Try.checked) own started (by kernel_rfl) Try.func8
    (ChangeSpec.witness6 (enc := enc) (C := Try.checked) false ⟨#[], #[.slice none 0 0, .slice none 0 0], []⟩ 8 (by kernel_rfl) (by kernel_rfl) (by kernel_rfl) (by kernel_rfl)) ?_
  intro W base args ds gs before hval0 hW hcnd hsz0 _
  have hsz : (DataW.weightsEach Try.prog (Try.f8.params.toList ++ Rows.fnExactWholeOkSpec.plain.varTypes Try.prog) (ds ++ gs)).all (· ≤ reachBytes) = true := hsz0
  have hval : ∀ (j : Nat) t v, Try.f8.params[j]? = some t → args[j]? = some v → Value.okWide Try.prog W .any base t v := hval0
  have hW' := hW
  obtain ⟨p, q, hA0, hV, rfl, hfz, hnd⟩ := hW
  have hA : DataW.TrodAll enc Try.prog W 0 (fun _ => true) true Try.f8.params.toList args.toList ds p := hA0
  rw [Try.params8] at hA hval hsz
  obtain ⟨v0, vs0, d0, ds0, p0, q0, hargs, rfl, rfl, h0, r0⟩ := trodAll_cons hA
  obtain ⟨v1, vs1, d1, ds1, p1, q1, rfl, rfl, rfl, h1, r1⟩ := trodAll_cons r0
  obtain ⟨rfl, rfl, rfl⟩ := trodAll_nil r1
  obtain rfl : args = #[v0, v1] := by cases args; simp_all
  obtain ⟨rfl, rfl⟩ := trodVars_none hV
  have k0 := h0
  have lt0 : ∀ x ∈ p0, x.block < W.heap.size := by obtain ⟨m, hm⟩ := k0; exact DataW.trod_lt m _ _ _ hm
  obtain ⟨b0, len0, cap0, rfl⟩ := okWide_slice Try.underlying48 (hval 0 48 v0 rfl rfl)
  obtain ⟨fuel0, hf0⟩ := h0
  obtain ⟨A0, c0, l0, hcs0, hc0, hr0⟩ := op_slice (Kd.slice 122 k122) Try.underlying48 (by kernel_rfl) (fun n_ _ cs_ x_ h_ => by obtain ⟨A_, c_, xs_, hcs_, hl_, hC_⟩ := op_slice k122 Try.underlying89 (by kernel_rfl) (fun n_ _ cs_ x_ h_ => op_T122 n_ cs_ x_ h_) h_; exact ⟨xs_, A_, c_, hcs_, hl_, hC_⟩) hf0
  obtain ⟨e1_, rfl, e3_⟩ : A0 = b0 ∧ l0.length = len0 ∧ c0 = cap0 := by simpa [Value.cells] using hcs0.symm
  subst e1_ e3_
  have k1 := h1
  have lt1 : ∀ x ∈ p1, x.block < W.heap.size := by obtain ⟨m, hm⟩ := k1; exact DataW.trod_lt m _ _ _ hm
  obtain ⟨b1, len1, cap1, rfl⟩ := okWide_slice Try.underlying23 (hval 1 23 v1 rfl rfl)
  obtain ⟨fuel1, hf1⟩ := h1
  obtain ⟨A1, c1, l1, hcs1, hc1, hr1⟩ := op_slice (Kd.int .i64) Try.underlying23 (by kernel_rfl) (fun n_ _ cs_ x_ h_ => by obtain ⟨a_, ha_⟩ := op_int Try.underlying3 h_; exact ⟨a_, ha_⟩) hf1
  obtain ⟨e1_, rfl, e3_⟩ : A1 = b1 ∧ l1.length = len1 ∧ c1 = cap1 := by simpa [Value.cells] using hcs1.symm
  subst e1_ e3_
  clear hA0 hval0 hsz0 hsz
  obtain ⟨k, hp⟩ := Pure.FnExactWholeOk l0 l1 ⟨_, _, hr0⟩ hr1.2.1
  refine (laws_FnExactWholeOk.calls k A0 c0 l0 A1 c1 l1 true W hr0 hc0 hr1 hc1 hp rfl).mono fun e W' he => ?_
  obtain ⟨he, hd⟩ := he
  have bel : Below W.heap.size W W' := hd
  subst he
  exact ⟨_, rfl, _, _, _, [], _, [], hW', trodAll_mk1 (shut_bool Try.underlying4 _), (trodAll_cons_mk (Below.trod laidOut (by kernel_rfl) (of_decide_eq_true (by kernel_rfl)) k0 bel lt0) (trodAll_cons_mk (Below.trod laidOut (by kernel_rfl) (of_decide_eq_true (by kernel_rfl)) k1 bel lt1) trodAll_mk0)), rfl, bel.frame _, fun h => by cases h⟩
theorem over : Rows.fnExactWholeOkRow.holds Try.pinned (OpenSpec.ofChange Rows.fnExactWholeOkSpec) :=
  OpenClaim.holds_of_wide 8 Try.f8 rfl rfl rfl rfl rfl rfl rfl ⟨rfl, rfl, rfl, rfl, rfl⟩ rfl rfl rfl rfl rfl (by kernel_rfl) Try.func8 (by kernel_rfl)
    (of_decide_eq_true (by kernel_rfl)) (by unfold Func.isWrapper; first | (rw [if_pos (by decide +kernel)]; kernel_rfl) | (rw [if_neg (by decide +kernel)]; exact ⟨rfl, rfl⟩))
    (fun os started H enc _ => lifted os started H enc)
theorem proved : Rows.FnExactWholeOkSaid := over
#print axioms proved
end Go.Proofs.Ythbflhimmmfonaa.fnExactWholeOk
namespace Go.Proofs.Ythbflhimmmfonaa
theorem fnExactWholeOk_holds : Rows.FnExactWholeOkSaid := fnExactWholeOk.proved
end Go.Proofs.Ythbflhimmmfonaa
