/- The law FnExactScanCover, for every input, by the abstract calculus. No condition. -/
import Derived.Test.YtiadonijmkklcaaGreatRows
import Derived.Test.YtiadonijmkklcaaGreatS6
import Derived.WalkKit
import Derived.ProofKit
import Derived.OpenShut
import Derived.ShutString
import Derived.ChangeOld
import Derived.Below
import Derived.SizedLaws
namespace Go.Proofs.YtiadonijmkklcaaGreat.fnExactScanCover
open Go.ChangeShapes Go.WideShapes Go.ChangeAt Go.RowKit Go.Proofs.YtiadonijmkklcaaGreat.Den
set_option linter.unusedVariables false
theorem own : ownKnob Tryz.prog.godebug = none := by kernel_rfl
theorem laidOut : laidOutB Tryz.prog = true := by kernel_rfl
set_option maxRecDepth 100000 in
theorem lifted (os : Os) (started : os.Started) (H : Type) (enc : TypeId × Value → H) :
    ReturnsInHanded {} Tryz.checked os 11 .any (Rows.fnExactScanCoverSpec.pre6 enc Tryz.prog Tryz.f11 Rows.fnExactScanCoverRow.domain false) (Rows.fnExactScanCoverSpec.post enc Tryz.prog Tryz.f11 false true false false) := by
  refine returnsInHanded_of_change_sized (C := Tryz.checked) own started (by kernel_rfl) Tryz.func11
    (ChangeSpec.witness6 (enc := enc) (C := Tryz.checked) false ⟨#[], #[.agg #[.slice none 0 0, .slice none 0 0, .slice none 0 0, .slice none 0 0],.int .i64 0,.agg #[.slice none 0 0, .slice none 0 0, .bool false, .bool false, .bool false, .int .i64 0]], []⟩ 8 (by kernel_rfl) (by kernel_rfl) (by kernel_rfl) (by kernel_rfl)) ?_
  intro W base args ds gs before hval0 hW hcnd hsz0 _
  have hval : ∀ (j : Nat) t v, Tryz.f11.params[j]? = some t → args[j]? = some v → Value.okWide Tryz.prog W .any base t v := hval0
  have hW' := hW
  obtain ⟨p, q, hA0, hV, rfl, hfz, hnd⟩ := hW
  have hA : DataW.TrodAll enc Tryz.prog W 0 (fun _ => true) true Tryz.f11.params.toList args.toList ds p := hA0
  obtain ⟨rfl, rfl⟩ := trodVars_none hV
  obtain ⟨xs, hvrs, htys⟩ := enter_all enc W (fun _ => true) true 9 _ _ _ _ (by kernel_rfl) (fun j t v h1 h2 => hval j t v (by simpa using h1) (by simpa using h2)) hA
  rw [Tryz.params11] at htys
  have hA2 := hA
  rw [Tryz.params11] at hA2
  obtain ⟨_, _, _, _, _, _, _, rfl, _, _, hA2⟩ := trodAll_cons hA2
  obtain ⟨_, _, _, _, _, _, _, rfl, _, _, hA2⟩ := trodAll_cons hA2
  obtain ⟨_, _, _, _, _, _, _, rfl, _, _, hA2⟩ := trodAll_cons hA2
  obtain ⟨_, rfl, _⟩ := trodAll_nil hA2
  refine (law_FnExactScanCover xs htys (frzAll W) W.heap.size W args (frzAll_rel W) hvrs).mono fun e W' ⟨v, cv, A', φ', he, hv, hg, hvr'⟩ => ?_
  subst he
  subst hv
  have hcv : cv = .bool true := hvr'
  subst hcv
  have bel := hg.below
  exact ⟨_, rfl, _, _, _, [], _, [], hW', trodAll_mk1 (shut_bool Tryz.underlying4 _), leave_all laidOut _ _ _ _ (by kernel_rfl) bel hA, rfl, bel.frame _, fun h => by cases h⟩
theorem over : Rows.fnExactScanCoverRow.holds Tryz.pinned (OpenSpec.ofChange Rows.fnExactScanCoverSpec) :=
  OpenClaim.holds_of_wide 11 Tryz.f11 rfl rfl rfl rfl rfl rfl rfl ⟨rfl, rfl, rfl, rfl, rfl⟩ rfl rfl rfl rfl rfl (by kernel_rfl) Tryz.func11 (by kernel_rfl)
    (of_decide_eq_true (by kernel_rfl)) (by unfold Func.isWrapper; first | (rw [if_pos (by decide +kernel)]; kernel_rfl) | (rw [if_neg (by decide +kernel)]; exact ⟨rfl, rfl⟩))
    (fun os started H enc _ => lifted os started H enc)
end Go.Proofs.YtiadonijmkklcaaGreat.fnExactScanCover
namespace Go.Proofs.YtiadonijmkklcaaGreat
theorem fnExactScanCover_holds : Rows.FnExactScanCoverSaid := fnExactScanCover.over
#print axioms fnExactScanCover_holds
end Go.Proofs.YtiadonijmkklcaaGreat
