/- The examples of the chapter hold: awake comes to true. -/
import Derived.Test.YtbahcpdhadhplaaQ1
import Derived.KernelRfl
set_option linter.unusedVariables false
namespace Go.Proofs.Ytbahcpdhadhplaa.PA
open Go.RowKit Go.Proofs.Ytbahcpdhadhplaa.Q Go.Proofs.Ytbahcpdhadhplaa.Hand Go.Proofs.YtbahcpdhadhplaaW.PrintWords Go.Proofs.YtbahcpdhadhplaaW.PrintMore
theorem awake_ev : Ev kinkeeplaw27_awake.f true := Ev.of kinkeeplaw27_awake.mono (k := 40) (by kernel_rfl)
end Go.Proofs.Ytbahcpdhadhplaa.PA
