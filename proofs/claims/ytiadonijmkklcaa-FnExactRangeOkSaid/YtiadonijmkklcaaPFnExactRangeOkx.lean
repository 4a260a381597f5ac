/- The contracts of the functions that the law FnExactRangeOk reaches, each proved: what each computes. Written by programs and by hand. -/
import Derived.Test.YtiadonijmkklcaaPFnExactRangeOkx0
import Derived.Test.YtiadonijmkklcaaPFnExactRangeOkx1
import Derived.Test.YtiadonijmkklcaaPFnExactRangeOkx2
import Derived.Test.YtiadonijmkklcaaPFnExactRangeOkx3
import Derived.Test.YtiadonijmkklcaaPFnExactRangeOkx4
import Derived.Test.YtiadonijmkklcaaPFnExactRangeOkx5
import Derived.Test.YtiadonijmkklcaaPFnExactRangeOkx6
namespace Go.Proofs.Ytiadonijmkklcaa.PFnExactRangeOk
open Go.RowKit Go.Proofs.YtiadonijmkklcaaW.PrintWords Go.Proofs.YtiadonijmkklcaaW.PrintLast Go.Proofs.YtiadonijmkklcaaW.PrintMore
attribute [local go_sem] max2_int min2_int max_two min_two max_three min_three max_four min_four   -- for this text's walks alone
set_option linter.unusedVariables false
set_option linter.unusedSimpArgs false

end Go.Proofs.Ytiadonijmkklcaa.PFnExactRangeOk
