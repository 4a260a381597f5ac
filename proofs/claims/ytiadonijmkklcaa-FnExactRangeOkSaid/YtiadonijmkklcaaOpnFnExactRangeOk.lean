/- The kinds of the arguments of FnExactRangeOk, opened. -/
import Derived.Test.YtiadonijmkklcaaOpen
import Derived.Test.YtiadonijmkklcaaPFnExactRangeOkx0
namespace Go.Proofs.Ytiadonijmkklcaa.Opn
open Go.ChangeShapes Go.WideShapes Go.RowKit Go.Proofs.Ytiadonijmkklcaa.Open Go.Proofs.Ytiadonijmkklcaa.PFnExactRangeOk Go.Proofs.YtiadonijmkklcaaW.PrintWords
set_option linter.unusedVariables false
def ok42 (x : S42) : Prop := WfI x.f0 ∧ WfI x.f1 ∧ (fun s : ByteArray => s.size ≤ maxLen) x.f2
theorem opens42 : Opens Try.prog 42 k42 ok42 := opens_struct (fun p => (⟨p.1, p.2.1, p.2.2⟩ : S42)) (fun _ => rfl) Try.underlying42 (by kernel_rfl) (opensF_cons rfl (by kernel_rfl) (opens_int Try.underlying3) (by decide) (opensF_cons rfl (by kernel_rfl) (opens_int Try.underlying3) (by decide) (opensF_one rfl (by kernel_rfl) (opens_string Try.underlying9))))
end Go.Proofs.Ytiadonijmkklcaa.Opn
