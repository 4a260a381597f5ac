/- The contracts of the functions that the law FnExactPin reaches, each proved: what each computes. Written by programs and by hand. -/
import Derived.Test.YtpidphppldimkaaPFnExactPinx0
import Derived.Test.YtpidphppldimkaaPFnExactPinx1
import Derived.Test.YtpidphppldimkaaPFnExactPinx2
import Derived.Test.YtpidphppldimkaaPFnExactPinx3
import Derived.Test.YtpidphppldimkaaPFnExactPinx4
import Derived.Test.YtpidphppldimkaaPFnExactPinx5
import Derived.Test.YtpidphppldimkaaPFnExactPinx6
import Derived.Test.YtpidphppldimkaaPFnExactPinx7
import Derived.Test.YtpidphppldimkaaPFnExactPinx8
import Derived.Test.YtpidphppldimkaaPFnExactPinx9
import Derived.Test.YtpidphppldimkaaPFnExactPinx10
import Derived.Test.YtpidphppldimkaaPFnExactPinx11
namespace Go.Proofs.Ytpidphppldimkaa.PFnExactPin
open Go.RowKit Go.Proofs.YtpidphppldimkaaW.PrintWords Go.Proofs.YtpidphppldimkaaW.PrintLast Go.Proofs.YtpidphppldimkaaW.PrintMore
attribute [local go_sem] max2_int min2_int max_two min_two max_three min_three max_four min_four   -- for this text's walks alone
set_option linter.unusedVariables false
set_option linter.unusedSimpArgs false

end Go.Proofs.Ytpidphppldimkaa.PFnExactPin
