/- The contracts of the functions that the law FnExactBothOk reaches, each proved: what each computes. Written by programs and by hand. -/
import Derived.Test.YtgpeboajnhlfnaaPFnExactBothOkx0
import Derived.Test.YtgpeboajnhlfnaaPFnExactBothOkx1
import Derived.Test.YtgpeboajnhlfnaaPFnExactBothOkx2
import Derived.Test.YtgpeboajnhlfnaaPFnExactBothOkx3
import Derived.Test.YtgpeboajnhlfnaaPFnExactBothOkx4
import Derived.Test.YtgpeboajnhlfnaaPFnExactBothOkx5
import Derived.Test.YtgpeboajnhlfnaaPFnExactBothOkx6
import Derived.Test.YtgpeboajnhlfnaaPFnExactBothOkx7
import Derived.Test.YtgpeboajnhlfnaaPFnExactBothOkx8
import Derived.Test.YtgpeboajnhlfnaaPFnExactBothOkx9
import Derived.Test.YtgpeboajnhlfnaaPFnExactBothOkx10
import Derived.Test.YtgpeboajnhlfnaaPFnExactBothOkx11
import Derived.Test.YtgpeboajnhlfnaaPFnExactBothOkx12
import Derived.Test.YtgpeboajnhlfnaaPFnExactBothOkx13
import Derived.Test.YtgpeboajnhlfnaaPFnExactBothOkx14
namespace Go.Proofs.Ytgpeboajnhlfnaa.PFnExactBothOk
open Go.RowKit Go.Proofs.YtgpeboajnhlfnaaW.PrintWords Go.Proofs.YtgpeboajnhlfnaaW.PrintLast Go.Proofs.YtgpeboajnhlfnaaW.PrintMore
attribute [local go_sem] max2_int min2_int max_two min_two max_three min_three max_four min_four   -- for this text's walks alone
set_option linter.unusedVariables false
set_option linter.unusedSimpArgs false

end Go.Proofs.Ytgpeboajnhlfnaa.PFnExactBothOk
