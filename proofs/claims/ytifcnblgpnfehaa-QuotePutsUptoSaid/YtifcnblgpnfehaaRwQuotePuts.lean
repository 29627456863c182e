-- Laid by rows.py, a program of this session's.
import Derived.Test.YtifcnblgpnfehaaX9
import Derived.Test.YtifcnblgpnfehaaK
namespace Go.Proofs.Ytifcnblgpnfehaa.X
open Go.RowKit Go.Proofs.YtifcnblgpnfehaaW.PrintWords Go.Proofs.YtifcnblgpnfehaaW.PrintLast
set_option linter.unusedVariables false
set_option linter.unusedSimpArgs false
/-- what the walk asks: for arguments whose strings and slices weigh no more than a machine bears -/
def archivistlaw01_QuotePuts.PureS : Prop := ∀ (x0 : ByteArray) (x1 : ByteArray) (x2 : Int) (x3 : Int) (x4 : Int), (Lit.int .u8 x2).wf = true → (Lit.int .i64 x3).wf = true → (Lit.int .u8 x4).wf = true → x0.size ≤ 140737488351232 → x1.size ≤ 140737488351232 → ∃ k, archivistlaw01_QuotePuts.f k x0 x1 x2 x3 x4 = some true
/-- what the walk asks: for arguments of so great a bulk at most -/
def archivistlaw01_QuotePuts.PureU : Prop := ∀ (x0 : ByteArray) (x1 : ByteArray) (x2 : Int) (x3 : Int) (x4 : Int), (Lit.int .u8 x2).wf = true → (Lit.int .i64 x3).wf = true → (Lit.int .u8 x4).wf = true → (x0.size + 1) + (x1.size + 1) + 1 + 1 + 1 ≤ 1048576 → ∃ k, archivistlaw01_QuotePuts.f k x0 x1 x2 x3 x4 = some true
end Go.Proofs.Ytifcnblgpnfehaa.X
