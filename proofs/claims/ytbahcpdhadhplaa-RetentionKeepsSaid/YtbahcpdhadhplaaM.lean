-- PRINTED by print.py (a twelfth state) out of the translation. Not trusted: Lean checks it.
import Derived.Test.YtbahcpdhadhplaaM0
import Derived.Test.YtbahcpdhadhplaaM1
import Derived.Test.YtbahcpdhadhplaaM2
import Derived.Test.YtbahcpdhadhplaaM3
namespace Go.Proofs.Ytbahcpdhadhplaa.M
open Go.Proofs.Ytbahcpdhadhplaa.Hand Go.RowKit Go.Proofs.YtbahcpdhadhplaaW.PrintWords Go.Proofs.YtbahcpdhadhplaaW.PrintLast Go.Proofs.YtbahcpdhadhplaaW.PrintMore
attribute [local go_sem] max2_int min2_int max_two min_two max_three min_three max_four min_four   -- for this text's walks alone
set_option linter.unusedVariables false
set_option linter.unusedSimpArgs false

end Go.Proofs.Ytbahcpdhadhplaa.M
