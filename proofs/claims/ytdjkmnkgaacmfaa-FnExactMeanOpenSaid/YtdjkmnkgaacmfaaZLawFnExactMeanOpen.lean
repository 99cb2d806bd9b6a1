/- The law FnExactMeanOpen: for every input the call returns true and the arguments read as before; no condition. -/
import Derived.Test.YtdjkmnkgaacmfaaRows
import Derived.Test.YtdjkmnkgaacmfaaZFnExactMeanOpen5
import Derived.Test.YtdjkmnkgaacmfaaZFnExactMeanOpen19
import Derived.WalkKit
import Derived.ProofKit
import Derived.OpenShut
import Derived.ShutString
import Derived.ChangeOld
import Derived.Below
import Derived.SizedLaws
namespace Go.Proofs.Ytdjkmnkgaacmfaa.fnExactMeanOpen
open Go.ChangeShapes Go.WideShapes Go.ChangeAt Go.RowKit Go.Proofs.Ytdjkmnkgaacmfaa.P Go.Proofs.YtdjkmnkgaacmfaaW.PrintWords
open Go.ChangeMaps (open_string shut_string)
set_option linter.unusedVariables false
theorem own : ownKnob Try.prog.godebug = none := by kernel_rfl
theorem laidOut : laidOutB Try.prog = true := by kernel_rfl
set_option maxRecDepth 100000 in
theorem lifted (os : Os) (started : os.Started) (H : Type) (enc : TypeId × Value → H) :
    ReturnsInHanded {} Try.checked os 3 .any (Rows.fnExactMeanOpenSpec.pre6 enc Try.prog Try.f3 Rows.fnExactMeanOpenRow.domain false) (Rows.fnExactMeanOpenSpec.post enc Try.prog Try.f3 false true false false) := by
  refine returnsInHanded_of_change_sized (C := Try.checked) own started (by kernel_rfl) Try.func3
    (ChangeSpec.witness6 (enc := enc) (C := Try.checked) false ⟨#[], #[.slice none 0 0], []⟩ 8 (by kernel_rfl) (by kernel_rfl) (by kernel_rfl) (by kernel_rfl)) ?_
  intro W base args ds gs before hval0 hW hcnd hsz0 _
  have hsz : (DataW.weightsEach Try.prog (Try.f3.params.toList ++ Rows.fnExactMeanOpenSpec.plain.varTypes Try.prog) (ds ++ gs)).all (· ≤ reachBytes) = true := hsz0
  have hval : ∀ (j : Nat) t v, Try.f3.params[j]? = some t → args[j]? = some v → Value.okWide Try.prog W .any base t v := hval0
  have hW' := hW
  obtain ⟨p, q, hA0, hV, rfl, hfz, hnd⟩ := hW
  have hA : DataW.TrodAll enc Try.prog W 0 (fun _ => true) true Try.f3.params.toList args.toList ds p := hA0
  rw [Try.params3] at hA hval hsz
  obtain ⟨v0, vs0, d0, ds0, p0, q0, hargs, rfl, rfl, h0, r0⟩ := trodAll_cons hA
  obtain ⟨rfl, rfl, rfl⟩ := trodAll_nil r0
  obtain rfl : args = #[v0] := by cases args; simp_all
  obtain ⟨rfl, rfl⟩ := trodVars_none hV
  have k0 := h0
  have lt0 : ∀ x ∈ p0, x.block < W.heap.size := by obtain ⟨m, hm⟩ := k0; exact DataW.trod_lt m _ _ _ hm
  obtain ⟨b0, len0, cap0, rfl⟩ := okWide_slice Try.underlying22 (hval 0 22 v0 rfl rfl)
  obtain ⟨fuel0, hf0⟩ := h0
  obtain ⟨A0, c0, l0, hcs0, hc0, hr0⟩ := op_slice (Kd.slice 56 k56) Try.underlying22 (by kernel_rfl) (fun n_ _ cs_ x_ h_ => by obtain ⟨A_, c_, xs_, hcs_, hl_, hC_⟩ := op_slice k56 Try.underlying39 (by kernel_rfl) (fun n_ _ cs_ x_ h_ => op_T56 n_ cs_ x_ h_) h_; exact ⟨xs_, A_, c_, hcs_, hl_, hC_⟩) hf0
  obtain ⟨e1_, rfl, e3_⟩ : A0 = b0 ∧ l0.length = len0 ∧ c0 = cap0 := by simpa [Value.cells] using hcs0.symm
  subst e1_ e3_
  clear hA0 hval0 hsz0 hsz
  obtain ⟨k, d, hp⟩ := mlaw_all l0 ⟨_, _, hr0⟩
  refine (meanlaw_says k d A0 c0 l0 W hr0 hc0 hp).mono fun e W' he => ?_
  obtain ⟨he, hd⟩ := he
  have bel : Below W.heap.size W W' := hd
  subst he
  exact ⟨_, rfl, _, _, _, [], _, [], hW', trodAll_mk1 (shut_bool Try.underlying4 _), (trodAll_cons_mk (Below.trod laidOut (by kernel_rfl) (of_decide_eq_true (by kernel_rfl)) k0 bel lt0) trodAll_mk0), rfl, bel.frame _, fun h => by cases h⟩
theorem over : Rows.fnExactMeanOpenRow.holds Try.pinned (OpenSpec.ofChange Rows.fnExactMeanOpenSpec) :=
  OpenClaim.holds_of_wide 3 Try.f3 rfl rfl rfl rfl rfl rfl rfl ⟨rfl, rfl, rfl, rfl, rfl⟩ rfl rfl rfl rfl rfl (by kernel_rfl) Try.func3 (by kernel_rfl)
    (of_decide_eq_true (by kernel_rfl)) (by unfold Func.isWrapper; first | (rw [if_pos (by decide +kernel)]; kernel_rfl) | (rw [if_neg (by decide +kernel)]; exact ⟨rfl, rfl⟩))
    (fun os started H enc _ => lifted os started H enc)
theorem proved : Rows.FnExactMeanOpenSaid := over
#print axioms proved
end Go.Proofs.Ytdjkmnkgaacmfaa.fnExactMeanOpen
namespace Go.Proofs.Ytdjkmnkgaacmfaa
theorem fnExactMeanOpen_holds : Rows.FnExactMeanOpenSaid := fnExactMeanOpen.proved
end Go.Proofs.Ytdjkmnkgaacmfaa
