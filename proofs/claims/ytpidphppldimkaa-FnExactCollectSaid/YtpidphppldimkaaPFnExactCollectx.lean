/- The contracts of the functions that the law FnExactCollect reaches, each proved: what each computes. Written by programs and by hand. -/
import Derived.Test.YtpidphppldimkaaPFnExactCollectx0
import Derived.Test.YtpidphppldimkaaPFnExactCollectx1
import Derived.Test.YtpidphppldimkaaPFnExactCollectx2
import Derived.Test.YtpidphppldimkaaPFnExactCollectx3
import Derived.Test.YtpidphppldimkaaPFnExactCollectx4
import Derived.Test.YtpidphppldimkaaPFnExactCollectx5
import Derived.Test.YtpidphppldimkaaPFnExactCollectx6
import Derived.Test.YtpidphppldimkaaPFnExactCollectx7
import Derived.Test.YtpidphppldimkaaPFnExactCollectx8
import Derived.Test.YtpidphppldimkaaPFnExactCollectx9
import Derived.Test.YtpidphppldimkaaPFnExactCollectx10
import Derived.Test.YtpidphppldimkaaPFnExactCollectx11
namespace Go.Proofs.Ytpidphppldimkaa.PFnExactCollect
open Go.RowKit Go.Proofs.YtpidphppldimkaaW.PrintWords Go.Proofs.YtpidphppldimkaaW.PrintLast Go.Proofs.YtpidphppldimkaaW.PrintMore
attribute [local go_sem] max2_int min2_int max_two min_two max_three min_three max_four min_four   -- for this text's walks alone
set_option linter.unusedVariables false
set_option linter.unusedSimpArgs false

end Go.Proofs.Ytpidphppldimkaa.PFnExactCollect
