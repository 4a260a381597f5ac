/- The contracts of the functions that the law FnExactTurned reaches, each proved: what each computes. Written by programs and by hand. -/
import Derived.Test.YtpidphppldimkaaPFnExactTurnedx0
import Derived.Test.YtpidphppldimkaaPFnExactTurnedx1
import Derived.Test.YtpidphppldimkaaPFnExactTurnedx2
import Derived.Test.YtpidphppldimkaaPFnExactTurnedx3
import Derived.Test.YtpidphppldimkaaPFnExactTurnedx4
import Derived.Test.YtpidphppldimkaaPFnExactTurnedx5
import Derived.Test.YtpidphppldimkaaPFnExactTurnedx6
import Derived.Test.YtpidphppldimkaaPFnExactTurnedx7
import Derived.Test.YtpidphppldimkaaPFnExactTurnedx8
import Derived.Test.YtpidphppldimkaaPFnExactTurnedx9
import Derived.Test.YtpidphppldimkaaPFnExactTurnedx10
import Derived.Test.YtpidphppldimkaaPFnExactTurnedx11
namespace Go.Proofs.Ytpidphppldimkaa.PFnExactTurned
open Go.RowKit Go.Proofs.YtpidphppldimkaaW.PrintWords Go.Proofs.YtpidphppldimkaaW.PrintLast Go.Proofs.YtpidphppldimkaaW.PrintMore
attribute [local go_sem] max2_int min2_int max_two min_two max_three min_three max_four min_four   -- for this text's walks alone
set_option linter.unusedVariables false
set_option linter.unusedSimpArgs false

end Go.Proofs.Ytpidphppldimkaa.PFnExactTurned
