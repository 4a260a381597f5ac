/- The contracts of the functions that the law FnExactUnpin reaches, each proved: what each computes. Written by programs and by hand. -/
import Derived.Test.YtpidphppldimkaaPFnExactUnpinx0
import Derived.Test.YtpidphppldimkaaPFnExactUnpinx1
import Derived.Test.YtpidphppldimkaaPFnExactUnpinx2
import Derived.Test.YtpidphppldimkaaPFnExactUnpinx3
import Derived.Test.YtpidphppldimkaaPFnExactUnpinx4
import Derived.Test.YtpidphppldimkaaPFnExactUnpinx5
import Derived.Test.YtpidphppldimkaaPFnExactUnpinx6
import Derived.Test.YtpidphppldimkaaPFnExactUnpinx7
import Derived.Test.YtpidphppldimkaaPFnExactUnpinx8
import Derived.Test.YtpidphppldimkaaPFnExactUnpinx9
import Derived.Test.YtpidphppldimkaaPFnExactUnpinx10
import Derived.Test.YtpidphppldimkaaPFnExactUnpinx11
namespace Go.Proofs.Ytpidphppldimkaa.PFnExactUnpin
open Go.RowKit Go.Proofs.YtpidphppldimkaaW.PrintWords Go.Proofs.YtpidphppldimkaaW.PrintLast Go.Proofs.YtpidphppldimkaaW.PrintMore
attribute [local go_sem] max2_int min2_int max_two min_two max_three min_three max_four min_four   -- for this text's walks alone
set_option linter.unusedVariables false
set_option linter.unusedSimpArgs false

end Go.Proofs.Ytpidphppldimkaa.PFnExactUnpin
