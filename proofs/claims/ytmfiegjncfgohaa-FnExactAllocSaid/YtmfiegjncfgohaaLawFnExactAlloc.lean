/- The law FnExactAlloc, for every input, by the abstract calculus. No condition. -/
import Derived.Test.YtmfiegjncfgohaaRows
import Derived.Test.YtmfiegjncfgohaaDenX
import Derived.Test.YtmfiegjncfgohaaA20
import Derived.WalkKit
import Derived.ProofKit
import Derived.OpenShut
import Derived.ShutString
import Derived.ChangeOld
import Derived.Below
import Derived.SizedLaws
namespace Go.Proofs.Ytmfiegjncfgohaa.fnExactAlloc
open Go.ChangeShapes Go.WideShapes Go.ChangeAt Go.RowKit Go.Proofs.Ytmfiegjncfgohaa.Den
set_option linter.unusedVariables false
theorem own : ownKnob Try.prog.godebug = none := by kernel_rfl
theorem laidOut : laidOutB Try.prog = true := by kernel_rfl
set_option maxRecDepth 100000 in
theorem lifted (os : Os) (started : os.Started) (H : Type) (enc : TypeId × Value → H) :
    ReturnsInHanded {} Try.checked os 8 .any (Rows.fnExactAllocSpec.pre6 enc Try.prog Try.f8 Rows.fnExactAllocRow.domain false) (Rows.fnExactAllocSpec.post enc Try.prog Try.f8 false true false false) := by
  refine returnsInHanded_of_change_sized (C := Try.checked) own started (by kernel_rfl) Try.func8
    (ChangeSpec.witness6 (enc := enc) (C := Try.checked) false ⟨#[], #[.agg #[.int .i64 0, .slice none 0 0],.int .i64 0], []⟩ 8 (by kernel_rfl) (by kernel_rfl) (by kernel_rfl) (by kernel_rfl)) ?_
  intro W base args ds gs before hval0 hW hcnd hsz0 _
  have hval : ∀ (j : Nat) t v, Try.f8.params[j]? = some t → args[j]? = some v → Value.okWide Try.prog W .any base t v := hval0
  have hW' := hW
  obtain ⟨p, q, hA0, hV, rfl, hfz, hnd⟩ := hW
  have hA : DataW.TrodAll enc Try.prog W 0 (fun _ => true) true Try.f8.params.toList args.toList ds p := hA0
  obtain ⟨rfl, rfl⟩ := trodVars_none hV
  obtain ⟨xs, hvrs, htys⟩ := enter_all enc W (fun _ => true) true 9 _ _ _ _ (by kernel_rfl) (fun j t v h1 h2 => hval j t v (by simpa using h1) (by simpa using h2)) hA
  rw [Try.params8] at htys
  have hA2 := hA
  rw [Try.params8] at hA2
  obtain ⟨_, _, _, _, _, _, _, rfl, _, _, hA2⟩ := trodAll_cons hA2
  obtain ⟨_, _, _, _, _, _, _, rfl, _, _, hA2⟩ := trodAll_cons hA2
  obtain ⟨_, rfl, _⟩ := trodAll_nil hA2
  refine (law_FnExactAlloc xs htys (frzAll W) W.heap.size W args (frzAll_rel W) hvrs).mono fun e W' ⟨v, cv, A', φ', he, hv, hg, hvr'⟩ => ?_
  subst he
  subst hv
  have hcv : cv = .bool true := hvr'
  subst hcv
  have bel := hg.below
  exact ⟨_, rfl, _, _, _, [], _, [], hW', trodAll_mk1 (shut_bool Try.underlying4 _), leave_all laidOut _ _ _ _ (by kernel_rfl) bel hA, rfl, bel.frame _, fun h => by cases h⟩
theorem over : Rows.fnExactAllocRow.holds Try.pinned (OpenSpec.ofChange Rows.fnExactAllocSpec) :=
  OpenClaim.holds_of_wide 8 Try.f8 rfl rfl rfl rfl rfl rfl rfl ⟨rfl, rfl, rfl, rfl, rfl⟩ rfl rfl rfl rfl rfl (by kernel_rfl) Try.func8 (by kernel_rfl)
    (of_decide_eq_true (by kernel_rfl)) (by unfold Func.isWrapper; first | (rw [if_pos (by decide +kernel)]; kernel_rfl) | (rw [if_neg (by decide +kernel)]; exact ⟨rfl, rfl⟩))
    (fun os started H enc _ => lifted os started H enc)
end Go.Proofs.Ytmfiegjncfgohaa.fnExactAlloc
namespace Go.Proofs.Ytmfiegjncfgohaa
theorem fnExactAlloc_holds : Rows.FnExactAllocSaid := fnExactAlloc.over
#print axioms fnExactAlloc_holds
end Go.Proofs.Ytmfiegjncfgohaa
