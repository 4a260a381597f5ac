/- The kinds of the arguments of FnExactCollect, opened. -/
import Derived.Test.YtpidphppldimkaaOpen
import Derived.Test.YtpidphppldimkaaPFnExactCollectx0
namespace Go.Proofs.Ytpidphppldimkaa.Opn
open Go.ChangeShapes Go.WideShapes Go.RowKit Go.Proofs.Ytpidphppldimkaa.Open Go.Proofs.Ytpidphppldimkaa.PFnExactCollect Go.Proofs.YtpidphppldimkaaW.PrintWords
set_option linter.unusedVariables false
def ok75 (x : S75) : Prop := WfI x.f0 ∧ WfI x.f1
theorem opens75 : Opens Try.prog 75 k75 ok75 := opens_struct (fun p => (⟨p.1, p.2⟩ : S75)) (fun _ => rfl) Try.underlying75 (by kernel_rfl) (opensF_cons rfl (by kernel_rfl) (opens_int Try.underlying3) (by decide) (opensF_one rfl (by kernel_rfl) (opens_int Try.underlying3)))
end Go.Proofs.Ytpidphppldimkaa.Opn
