/- The kinds of the arguments of FnExactBothOk, opened. -/
import Derived.Test.YtgpeboajnhlfnaaOpen
import Derived.Test.YtgpeboajnhlfnaaPFnExactBothOkx0
namespace Go.Proofs.Ytgpeboajnhlfnaa.Opn
open Go.ChangeShapes Go.WideShapes Go.RowKit Go.Proofs.Ytgpeboajnhlfnaa.Open Go.Proofs.Ytgpeboajnhlfnaa.PFnExactBothOk Go.Proofs.YtgpeboajnhlfnaaW.PrintWords
set_option linter.unusedVariables false
def ok85 (x : S85) : Prop := WfI x.f0 ∧ WfI x.f1 ∧ WfI x.f2 ∧ WfI x.f3 ∧ WfI x.f4 ∧ WfI x.f5 ∧ WfI x.f6 ∧ WfI x.f7
theorem opens85 : Opens Try.prog 85 k85 ok85 := opens_struct (fun p => (⟨p.1, p.2.1, p.2.2.1, p.2.2.2.1, p.2.2.2.2.1, p.2.2.2.2.2.1, p.2.2.2.2.2.2.1, p.2.2.2.2.2.2.2⟩ : S85)) (fun _ => rfl) Try.underlying85 (by kernel_rfl) (opensF_cons rfl (by kernel_rfl) (opens_int Try.underlying3) (by decide) (opensF_cons rfl (by kernel_rfl) (opens_int Try.underlying3) (by decide) (opensF_cons rfl (by kernel_rfl) (opens_int Try.underlying3) (by decide) (opensF_cons rfl (by kernel_rfl) (opens_int Try.underlying3) (by decide) (opensF_cons rfl (by kernel_rfl) (opens_int Try.underlying3) (by decide) (opensF_cons rfl (by kernel_rfl) (opens_int Try.underlying3) (by decide) (opensF_cons rfl (by kernel_rfl) (opens_int Try.underlying3) (by decide) (opensF_one rfl (by kernel_rfl) (opens_int Try.underlying3)))))))))
def ok99 (x : S99) : Prop := WfI x.f0 ∧ (fun _ => True) x.f1 ∧ WfI x.f2
theorem opens99 : Opens Try.prog 99 k99 ok99 := opens_struct (fun p => (⟨p.1, p.2.1, p.2.2⟩ : S99)) (fun _ => rfl) Try.underlying99 (by kernel_rfl) (opensF_cons rfl (by kernel_rfl) (opens_int Try.underlying3) (by decide) (opensF_cons rfl (by kernel_rfl) (opens_bool Try.underlying4) (by decide) (opensF_one rfl (by kernel_rfl) (opens_int Try.underlying3))))
end Go.Proofs.Ytgpeboajnhlfnaa.Opn
