/- The kinds of the arguments of FnExactRoom, opened. -/
import Derived.Test.YtdbhdggbllmkaaaOpen
import Derived.Test.YtdbhdggbllmkaaaPFnExactRoomx0
namespace Go.Proofs.Ytdbhdggbllmkaaa.Opn
open Go.ChangeShapes Go.WideShapes Go.RowKit Go.Proofs.Ytdbhdggbllmkaaa.Open Go.Proofs.Ytdbhdggbllmkaaa.PFnExactRoom Go.Proofs.YtdbhdggbllmkaaaW.PrintWords
set_option linter.unusedVariables false
def ok71 (x : S71) : Prop := WfI x.f0 ∧ WfI x.f1
theorem opens71 : Opens Try.prog 71 k71 ok71 := opens_struct (fun p => (⟨p.1, p.2⟩ : S71)) (fun _ => rfl) Try.underlying71 (by kernel_rfl) (opensF_cons rfl (by kernel_rfl) (opens_int Try.underlying3) (by decide) (opensF_one rfl (by kernel_rfl) (opens_int Try.underlying3)))
end Go.Proofs.Ytdbhdggbllmkaaa.Opn
