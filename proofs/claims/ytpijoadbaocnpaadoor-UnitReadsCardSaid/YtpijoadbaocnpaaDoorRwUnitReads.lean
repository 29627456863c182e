-- Laid by rows.py, a program of this session's.
import Derived.Test.YtpijoadbaocnpaaDoorX9
import Derived.Test.YtpijoadbaocnpaaDoorK
namespace Go.Proofs.YtpijoadbaocnpaaDoor.X
open Go.RowKit Go.Proofs.YtpijoadbaocnpaaDoor.B Go.Proofs.YtpijoadbaocnpaaDoorW.PrintWords Go.Proofs.YtpijoadbaocnpaaDoorW.PrintLast
set_option linter.unusedVariables false
set_option linter.unusedSimpArgs false
/-- what the walk asks: for arguments whose strings and slices weigh no more than a machine bears -/
def archivistlaw03_UnitReads.PureS : Prop := ∀ (x0 : ByteArray) (x1 : Bool) (x2 : List (Int)) (x3 : Int) (x4 : Bool), (x2.length ≤ maxLen ∧ ∀ y0 ∈ x2, (Lit.int .u8 y0).wf = true) → (Lit.int .i64 x3).wf = true → x0.size ≤ 140737488351232 → (x2.length * 1 ≤ 140737488351232 ∧ ∀ y0 ∈ x2, True) → ∃ k, archivistlaw03_UnitReads.f k x0 x1 x2 x3 x4 = some true
/-- what the walk asks: for arguments of so great a bulk at most -/
def archivistlaw03_UnitReads.PureU : Prop := ∀ (x0 : ByteArray) (x1 : Bool) (x2 : List (Int)) (x3 : Int) (x4 : Bool), (x2.length ≤ maxLen ∧ ∀ y0 ∈ x2, (Lit.int .u8 y0).wf = true) → (Lit.int .i64 x3).wf = true → (x0.size + 1) + 1 + ((x2.map fun y0 => 1).sum + 1) + 1 + 1 ≤ 1048576 → ∃ k, archivistlaw03_UnitReads.f k x0 x1 x2 x3 x4 = some true
end Go.Proofs.YtpijoadbaocnpaaDoor.X
