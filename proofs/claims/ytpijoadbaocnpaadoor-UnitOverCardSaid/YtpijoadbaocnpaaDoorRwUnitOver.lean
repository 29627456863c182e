-- Laid by rows.py, a program of this session's.
import Derived.Test.YtpijoadbaocnpaaDoorX15
import Derived.Test.YtpijoadbaocnpaaDoorK
namespace Go.Proofs.YtpijoadbaocnpaaDoor.X
open Go.RowKit Go.Proofs.YtpijoadbaocnpaaDoor.B Go.Proofs.YtpijoadbaocnpaaDoorW.PrintWords Go.Proofs.YtpijoadbaocnpaaDoorW.PrintLast
set_option linter.unusedVariables false
set_option linter.unusedSimpArgs false
/-- what the walk asks: for arguments whose strings and slices weigh no more than a machine bears -/
def archivistlaw03_UnitOver.PureS : Prop := ∀ (x0 : Int), (Lit.int .u32 x0).wf = true → ∃ k, archivistlaw03_UnitOver.f k x0 = some true
/-- what the walk asks: for arguments of so great a bulk at most -/
def archivistlaw03_UnitOver.PureU : Prop := ∀ (x0 : Int), (Lit.int .u32 x0).wf = true → 1 ≤ 1048576 → ∃ k, archivistlaw03_UnitOver.f k x0 = some true
end Go.Proofs.YtpijoadbaocnpaaDoor.X
