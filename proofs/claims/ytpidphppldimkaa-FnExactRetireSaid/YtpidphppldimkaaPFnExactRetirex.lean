/- The contracts of the functions that the law FnExactRetire reaches, each proved: what each computes. Written by programs and by hand. -/
import Derived.Test.YtpidphppldimkaaPFnExactRetirex0
import Derived.Test.YtpidphppldimkaaPFnExactRetirex1
import Derived.Test.YtpidphppldimkaaPFnExactRetirex2
import Derived.Test.YtpidphppldimkaaPFnExactRetirex3
import Derived.Test.YtpidphppldimkaaPFnExactRetirex4
import Derived.Test.YtpidphppldimkaaPFnExactRetirex5
import Derived.Test.YtpidphppldimkaaPFnExactRetirex6
import Derived.Test.YtpidphppldimkaaPFnExactRetirex7
import Derived.Test.YtpidphppldimkaaPFnExactRetirex8
import Derived.Test.YtpidphppldimkaaPFnExactRetirex9
import Derived.Test.YtpidphppldimkaaPFnExactRetirex10
import Derived.Test.YtpidphppldimkaaPFnExactRetirex11
namespace Go.Proofs.Ytpidphppldimkaa.PFnExactRetire
open Go.RowKit Go.Proofs.YtpidphppldimkaaW.PrintWords Go.Proofs.YtpidphppldimkaaW.PrintLast Go.Proofs.YtpidphppldimkaaW.PrintMore
attribute [local go_sem] max2_int min2_int max_two min_two max_three min_three max_four min_four   -- for this text's walks alone
set_option linter.unusedVariables false
set_option linter.unusedSimpArgs false

end Go.Proofs.Ytpidphppldimkaa.PFnExactRetire
