/-
  What the examples of the laws of package label tell, for the seat Ytbkhgldinmabiaa.
-/
import Derived.Test.YtbkhgldinmabiaaX14
import Derived.Test.YtbkhgldinmabiaaB
set_option linter.unusedVariables false
set_option linter.unusedSimpArgs false
namespace Go.Proofs.Ytbkhgldinmabiaa.B
open Go.RowKit Go.Proofs.Ytbkhgldinmabiaa.X Go.Proofs.YtbkhgldinmabiaaW.PrintWords Go.Proofs.YtbkhgldinmabiaaW.PrintLast

set_option maxRecDepth 100000 in
theorem labelExamples_ev : Ev (fun k => archivistlaw06_examples.f k) true :=
  Ev.of (k := 80) (fun k => archivistlaw06_examples.mono k) (by kernel_rfl)
end Go.Proofs.Ytbkhgldinmabiaa.B
