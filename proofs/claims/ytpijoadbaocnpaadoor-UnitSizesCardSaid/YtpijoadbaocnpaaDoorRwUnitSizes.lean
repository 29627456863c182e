-- Laid by rows.py, a program of this session's.
import Derived.Test.YtpijoadbaocnpaaDoorX14
import Derived.Test.YtpijoadbaocnpaaDoorK
namespace Go.Proofs.YtpijoadbaocnpaaDoor.X
open Go.RowKit Go.Proofs.YtpijoadbaocnpaaDoor.B Go.Proofs.YtpijoadbaocnpaaDoorW.PrintWords Go.Proofs.YtpijoadbaocnpaaDoorW.PrintLast
set_option linter.unusedVariables false
set_option linter.unusedSimpArgs false
/-- what the walk asks: for arguments whose strings and slices weigh no more than a machine bears -/
def archivistlaw03_UnitSizes.PureS : Prop := ∀ (x0 : Int) (x1 : Int), (Lit.int .u16 x0).wf = true → (Lit.int .u8 x1).wf = true → ∃ k, archivistlaw03_UnitSizes.f k x0 x1 = some true
/-- what the walk asks: for arguments of so great a bulk at most -/
def archivistlaw03_UnitSizes.PureU : Prop := ∀ (x0 : Int) (x1 : Int), (Lit.int .u16 x0).wf = true → (Lit.int .u8 x1).wf = true → 1 + 1 ≤ 1048576 → ∃ k, archivistlaw03_UnitSizes.f k x0 x1 = some true
end Go.Proofs.YtpijoadbaocnpaaDoor.X
