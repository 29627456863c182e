-- Laid by rows.py, a program of this session's.
import Derived.Test.YtdnicaponolmmaaDoorX5
import Derived.Test.YtdnicaponolmmaaDoorK
namespace Go.Proofs.YtdnicaponolmmaaDoor.X
open Go.RowKit Go.Proofs.YtdnicaponolmmaaDoor.B Go.Proofs.YtdnicaponolmmaaDoorW.PrintWords Go.Proofs.YtdnicaponolmmaaDoorW.PrintLast
set_option linter.unusedVariables false
set_option linter.unusedSimpArgs false
/-- what the walk asks: for arguments whose strings and slices weigh no more than a machine bears -/
def archivistlaw02_NumTexts.PureS : Prop := ∀ (x0 : Int) (x1 : ByteArray) (x2 : Int), (Lit.int .i64 x0).wf = true → (Lit.int .u8 x2).wf = true → x1.size ≤ 140737488351232 → ∃ k, archivistlaw02_NumTexts.f k x0 x1 x2 = some true
/-- what the walk asks: for arguments of so great a bulk at most -/
def archivistlaw02_NumTexts.PureU : Prop := ∀ (x0 : Int) (x1 : ByteArray) (x2 : Int), (Lit.int .i64 x0).wf = true → (Lit.int .u8 x2).wf = true → 1 + (x1.size + 1) + 1 ≤ 1048576 → ∃ k, archivistlaw02_NumTexts.f k x0 x1 x2 = some true
end Go.Proofs.YtdnicaponolmmaaDoor.X
