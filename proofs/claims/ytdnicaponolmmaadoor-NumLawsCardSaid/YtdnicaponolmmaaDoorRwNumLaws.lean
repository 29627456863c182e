-- Laid by rows.py, a program of this session's.
import Derived.Test.YtdnicaponolmmaaDoorX7
import Derived.Test.YtdnicaponolmmaaDoorK
namespace Go.Proofs.YtdnicaponolmmaaDoor.X
open Go.RowKit Go.Proofs.YtdnicaponolmmaaDoor.B Go.Proofs.YtdnicaponolmmaaDoorW.PrintWords Go.Proofs.YtdnicaponolmmaaDoorW.PrintLast
set_option linter.unusedVariables false
set_option linter.unusedSimpArgs false
/-- what the walk asks: for arguments whose strings and slices weigh no more than a machine bears -/
def archivistlaw02_NumLaws.PureS : Prop := ∀ (x0 : Int) (x1 : Int), (Lit.int .i64 x0).wf = true → (Lit.int .i64 x1).wf = true → ∃ k, archivistlaw02_NumLaws.f k x0 x1 = some true
/-- what the walk asks: for arguments of so great a bulk at most -/
def archivistlaw02_NumLaws.PureU : Prop := ∀ (x0 : Int) (x1 : Int), (Lit.int .i64 x0).wf = true → (Lit.int .i64 x1).wf = true → 1 + 1 ≤ 1048576 → ∃ k, archivistlaw02_NumLaws.f k x0 x1 = some true
end Go.Proofs.YtdnicaponolmmaaDoor.X
