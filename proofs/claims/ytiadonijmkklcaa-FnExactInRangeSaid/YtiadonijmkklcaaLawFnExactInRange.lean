/- The law FnExactInRange, for every input, by the abstract calculus. No condition. -/
import Derived.Test.YtiadonijmkklcaaRows
import Derived.Test.YtiadonijmkklcaaDenX
import Derived.Test.YtiadonijmkklcaaV5
import Derived.WalkKit
import Derived.ProofKit
import Derived.OpenShut
import Derived.ShutString
import Derived.ChangeOld
import Derived.Below
import Derived.SizedLaws
namespace Go.Proofs.Ytiadonijmkklcaa.fnExactInRange
open Go.ChangeShapes Go.WideShapes Go.ChangeAt Go.RowKit Go.Proofs.Ytiadonijmkklcaa.Den
set_option linter.unusedVariables false
theorem own : ownKnob Try.prog.godebug = none := by kernel_rfl
theorem laidOut : laidOutB Try.prog = true := by kernel_rfl
set_option maxRecDepth 100000 in
theorem lifted (os : Os) (started : os.Started) (H : Type) (enc : TypeId × Value → H) :
    ReturnsInHanded {} Try.checked os 4 .any (Rows.fnExactInRangeSpec.pre6 enc Try.prog Try.f4 Rows.fnExactInRangeRow.domain false) (Rows.fnExactInRangeSpec.post enc Try.prog Try.f4 false true false false) := by
  refine returnsInHanded_of_change_sized (C := Try.checked) own started (by kernel_rfl) Try.func4
    (ChangeSpec.witness6 (enc := enc) (C := Try.checked) false ⟨#[], #[.agg #[.slice none 0 0, .slice none 0 0, .bool false, .bool false, .bool false, .int .i64 0],.slice none 0 0], []⟩ 8 (by kernel_rfl) (by kernel_rfl) (by kernel_rfl) (by kernel_rfl)) ?_
  intro W base args ds gs before hval0 hW hcnd hsz0 _
  have hval : ∀ (j : Nat) t v, Try.f4.params[j]? = some t → args[j]? = some v → Value.okWide Try.prog W .any base t v := hval0
  have hW' := hW
  obtain ⟨p, q, hA0, hV, rfl, hfz, hnd⟩ := hW
  have hA : DataW.TrodAll enc Try.prog W 0 (fun _ => true) true Try.f4.params.toList args.toList ds p := hA0
  obtain ⟨rfl, rfl⟩ := trodVars_none hV
  obtain ⟨xs, hvrs, htys⟩ := enter_all enc W (fun _ => true) true 9 _ _ _ _ (by kernel_rfl) (fun j t v h1 h2 => hval j t v (by simpa using h1) (by simpa using h2)) hA
  rw [Try.params4] at htys
  have hA2 := hA
  rw [Try.params4] at hA2
  obtain ⟨_, _, _, _, _, _, _, rfl, _, _, hA2⟩ := trodAll_cons hA2
  obtain ⟨_, _, _, _, _, _, _, rfl, _, _, hA2⟩ := trodAll_cons hA2
  obtain ⟨_, rfl, _⟩ := trodAll_nil hA2
  refine (law_FnExactInRange xs htys (frzAll W) W.heap.size W args (frzAll_rel W) hvrs).mono fun e W' ⟨v, cv, A', φ', he, hv, hg, hvr'⟩ => ?_
  subst he
  subst hv
  have hcv : cv = .bool true := hvr'
  subst hcv
  have bel := hg.below
  exact ⟨_, rfl, _, _, _, [], _, [], hW', trodAll_mk1 (shut_bool Try.underlying4 _), leave_all laidOut _ _ _ _ (by kernel_rfl) bel hA, rfl, bel.frame _, fun h => by cases h⟩
theorem over : Rows.fnExactInRangeRow.holds Try.pinned (OpenSpec.ofChange Rows.fnExactInRangeSpec) :=
  OpenClaim.holds_of_wide 4 Try.f4 rfl rfl rfl rfl rfl rfl rfl ⟨rfl, rfl, rfl, rfl, rfl⟩ rfl rfl rfl rfl rfl (by kernel_rfl) Try.func4 (by kernel_rfl)
    (of_decide_eq_true (by kernel_rfl)) (by unfold Func.isWrapper; first | (rw [if_pos (by decide +kernel)]; kernel_rfl) | (rw [if_neg (by decide +kernel)]; exact ⟨rfl, rfl⟩))
    (fun os started H enc _ => lifted os started H enc)
end Go.Proofs.Ytiadonijmkklcaa.fnExactInRange
namespace Go.Proofs.Ytiadonijmkklcaa
theorem fnExactInRange_holds : Rows.FnExactInRangeSaid := fnExactInRange.over
#print axioms fnExactInRange_holds
end Go.Proofs.Ytiadonijmkklcaa
