/- The law FnExactBothOk, for every input: the machine's side (the call's contract) joined with the pure statement. No condition. -/
import Derived.Test.YtgpeboajnhlfnaaRows
import Derived.Test.YtgpeboajnhlfnaaOpen
import Derived.Test.YtgpeboajnhlfnaaOpnFnExactBothOk
import Derived.Test.YtgpeboajnhlfnaaPFnExactBothOkx
import Derived.Test.YtgpeboajnhlfnaaPureFnExactBothOk
import Derived.WalkKit
import Derived.ProofKit
import Derived.OpenShut
import Derived.ShutString
import Derived.ChangeOld
import Derived.Below
import Derived.SizedLaws
namespace Go.Proofs.Ytgpeboajnhlfnaa.fnExactBothOk
open Go.ChangeShapes Go.WideShapes Go.ChangeAt Go.RowKit Go.Proofs.Ytgpeboajnhlfnaa.Open Go.Proofs.Ytgpeboajnhlfnaa.Opn Go.Proofs.Ytgpeboajnhlfnaa.PFnExactBothOk Go.Proofs.YtgpeboajnhlfnaaW.PrintWords
open Go.ChangeMaps (open_string shut_string)
set_option linter.unusedVariables false
theorem own : ownKnob Try.prog.godebug = none := by kernel_rfl
theorem laidOut : laidOutB Try.prog = true := by kernel_rfl
set_option maxRecDepth 100000 in
theorem lifted (os : Os) (started : os.Started) (H : Type) (enc : TypeId × Value → H) :
    ReturnsInHanded {} Try.checked os 6 .any (Rows.fnExactBothOkSpec.pre6 enc Try.prog Try.f6 Rows.fnExactBothOkRow.domain false) (Rows.fnExactBothOkSpec.post enc Try.prog Try.f6 false true false false) := by
  refine returnsInHanded_of_change_sized (C := Try.checked) own started (by kernel_rfl) Try.func6
    (ChangeSpec.witness6 (enc := enc) (C := Try.checked) false ⟨#[], #[.agg #[.slice none 0 0, .int .i64 0, .int .i64 0, .int .i64 0, .slice none 0 0, .slice none 0 0]], []⟩ 8 (by kernel_rfl) (by kernel_rfl) (by kernel_rfl) (by kernel_rfl)) ?_
  intro W base args ds gs before hval0 hW hcnd hsz0 _
  have hval : ∀ (j : Nat) t v, Try.f6.params[j]? = some t → args[j]? = some v → Value.okWide Try.prog W .any base t v := hval0
  have hW' := hW
  obtain ⟨p, q, hA0, hV, rfl, hfz, hnd⟩ := hW
  have hA : DataW.TrodAll enc Try.prog W 0 (fun _ => true) true Try.f6.params.toList args.toList ds p := hA0
  rw [Try.params6] at hA hval
  obtain ⟨v0, vs0, d0, ds0, p0, q0, hargs, rfl, rfl, h0, r0⟩ := trodAll_cons hA
  obtain ⟨rfl, rfl, rfl⟩ := trodAll_nil r0
  obtain rfl : args = #[v0] := by cases args; simp_all
  obtain ⟨rfl, rfl⟩ := trodVars_none hV
  obtain ⟨cs0, rfl, hsz0⟩ := okWide_struct Try.underlying44 (hval 0 44 v0 rfl rfl)
  have k0 := h0
  have lt0 : ∀ x ∈ p0, x.block < W.heap.size := by obtain ⟨m, hm⟩ := k0; exact DataW.trod_lt m _ _ _ hm
  obtain ⟨x0, hK0, ok0⟩ := open_arg (opens_struct (g := fun x => x) (fun x => x) (fun _ => rfl) Try.underlying44 (by kernel_rfl) (opensF_cons rfl (by kernel_rfl) (opens_slice Try.underlying25 (by kernel_rfl) (opens_int Try.underlying3)) (by decide) (opensF_cons rfl (by kernel_rfl) (opens_int Try.underlying3) (by decide) (opensF_cons rfl (by kernel_rfl) (opens_int Try.underlying3) (by decide) (opensF_cons rfl (by kernel_rfl) (opens_int Try.underlying3) (by decide) (opensF_cons rfl (by kernel_rfl) (opens_slice Try.underlying41 (by kernel_rfl) opens85) (by decide) (opensF_one rfl (by kernel_rfl) (opens_slice Try.underlying42 (by kernel_rfl) opens99)))))))) h0
  obtain ⟨_, _, e0, ⟨A0_0, c0_0, rfl, hc0_0, hr0_0⟩, ⟨_, _, rfl, rfl, ⟨_, _, rfl, rfl, ⟨_, _, rfl, rfl, ⟨_, _, rfl, ⟨A0_4, c0_4, rfl, hc0_4, hr0_4⟩, ⟨A0_5, c0_5, rfl, hc0_5, hr0_5⟩⟩⟩⟩⟩⟩ := hK0
  obtain rfl : cs0 = #[.slice A0_0 x0.1.length c0_0, .int .i64 x0.2.1, .int .i64 x0.2.2.1, .int .i64 x0.2.2.2.1, .slice A0_4 x0.2.2.2.2.1.length c0_4, .slice A0_5 x0.2.2.2.2.2.length c0_5] := by
    cases cs0
    simpa [Value.cells, List.cons_append, List.nil_append] using e0
  clear hA0 hval0 hsz0
  obtain ⟨k, hk⟩ := Pure.FnExactBothOk (x0.1) (x0.2.1) (x0.2.2.1) (x0.2.2.2.1) (x0.2.2.2.2.1) (x0.2.2.2.2.2) ok0
  refine (laws_FnExactBothOk.calls k _ _ (x0.1) (x0.2.1) (x0.2.2.1) (x0.2.2.2.1) _ _ (x0.2.2.2.2.1) _ _ (x0.2.2.2.2.2) true W hr0_0 hc0_0 hr0_4 hc0_4 hr0_5 hc0_5 hk).mono fun e W' hpost => ?_
  obtain ⟨he, bel⟩ : e = .returned (.bool true) ∧ Below W.heap.size W W' := by first | exact hpost | exact ⟨hpost.1, hpost.2.below⟩
  subst he
  exact ⟨_, rfl, _, _, _, [], _, [], hW', trodAll_mk1 (shut_bool Try.underlying4 _), (trodAll_cons_mk (Below.trod laidOut (by kernel_rfl) (of_decide_eq_true (by kernel_rfl)) k0 bel lt0) trodAll_mk0), rfl, bel.frame _, fun h => by cases h⟩
theorem over : Rows.fnExactBothOkRow.holds Try.pinned (OpenSpec.ofChange Rows.fnExactBothOkSpec) :=
  OpenClaim.holds_of_wide 6 Try.f6 rfl rfl rfl rfl rfl rfl rfl ⟨rfl, rfl, rfl, rfl, rfl⟩ rfl rfl rfl rfl rfl (by kernel_rfl) Try.func6 (by kernel_rfl)
    (of_decide_eq_true (by kernel_rfl)) (by unfold Func.isWrapper; first | (rw [if_pos (by decide +kernel)]; kernel_rfl) | (rw [if_neg (by decide +kernel)]; exact ⟨rfl, rfl⟩))
    (fun os started H enc _ => lifted os started H enc)
end Go.Proofs.Ytgpeboajnhlfnaa.fnExactBothOk
namespace Go.Proofs.Ytgpeboajnhlfnaa
theorem fnExactBothOk_holds : Rows.FnExactBothOkSaid := fnExactBothOk.over
#print axioms fnExactBothOk_holds
end Go.Proofs.Ytgpeboajnhlfnaa
