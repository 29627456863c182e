-- Laid by rows.py, a program of this session's.
import Derived.Test.YtdnicaponolmmaaDoorX6
import Derived.Test.YtdnicaponolmmaaDoorK
namespace Go.Proofs.YtdnicaponolmmaaDoor.X
open Go.RowKit Go.Proofs.YtdnicaponolmmaaDoor.B Go.Proofs.YtdnicaponolmmaaDoorW.PrintWords Go.Proofs.YtdnicaponolmmaaDoorW.PrintLast
set_option linter.unusedVariables false
set_option linter.unusedSimpArgs false
/-- what the walk asks: for arguments whose strings and slices weigh no more than a machine bears -/
def archivistlaw02_NumBack.PureS : Prop := ∀ (x0 : Int) (x1 : Int) (x2 : Bool), (Lit.int .i64 x0).wf = true → (Lit.int .i64 x1).wf = true → ∃ k, archivistlaw02_NumBack.f k x0 x1 x2 = some true
/-- what the walk asks: for arguments of so great a bulk at most -/
def archivistlaw02_NumBack.PureU : Prop := ∀ (x0 : Int) (x1 : Int) (x2 : Bool), (Lit.int .i64 x0).wf = true → (Lit.int .i64 x1).wf = true → 1 + 1 + 1 ≤ 1048576 → ∃ k, archivistlaw02_NumBack.f k x0 x1 x2 = some true
end Go.Proofs.YtdnicaponolmmaaDoor.X
