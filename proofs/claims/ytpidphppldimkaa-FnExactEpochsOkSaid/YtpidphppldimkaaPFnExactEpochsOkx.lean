/- The contracts of the functions that the law FnExactEpochsOk reaches, each proved: what each computes. Written by programs and by hand. -/
import Derived.Test.YtpidphppldimkaaPFnExactEpochsOkx0
import Derived.Test.YtpidphppldimkaaPFnExactEpochsOkx1
import Derived.Test.YtpidphppldimkaaPFnExactEpochsOkx2
import Derived.Test.YtpidphppldimkaaPFnExactEpochsOkx3
import Derived.Test.YtpidphppldimkaaPFnExactEpochsOkx4
import Derived.Test.YtpidphppldimkaaPFnExactEpochsOkx5
import Derived.Test.YtpidphppldimkaaPFnExactEpochsOkx6
import Derived.Test.YtpidphppldimkaaPFnExactEpochsOkx7
namespace Go.Proofs.Ytpidphppldimkaa.PFnExactEpochsOk
open Go.RowKit Go.Proofs.YtpidphppldimkaaW.PrintWords Go.Proofs.YtpidphppldimkaaW.PrintLast Go.Proofs.YtpidphppldimkaaW.PrintMore
attribute [local go_sem] max2_int min2_int max_two min_two max_three min_three max_four min_four   -- for this text's walks alone
set_option linter.unusedVariables false
set_option linter.unusedSimpArgs false

end Go.Proofs.Ytpidphppldimkaa.PFnExactEpochsOk
