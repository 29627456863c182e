-- Laid by rows.py, a program of this session's.
import Derived.Test.YtifcnblgpnfehaaX14
import Derived.Test.YtifcnblgpnfehaaK
namespace Go.Proofs.Ytifcnblgpnfehaa.X
open Go.RowKit Go.Proofs.YtifcnblgpnfehaaW.PrintWords Go.Proofs.YtifcnblgpnfehaaW.PrintLast
set_option linter.unusedVariables false
/-- what the walk asks: for arguments whose strings and slices weigh no more than a machine bears -/
def archivistlaw01_QuoteAmong.PureS : Prop := ∀ (x0 : List (ByteArray)) (x1 : Int) (x2 : ByteArray), (x0.length ≤ maxLen ∧ ∀ y0 ∈ x0, True) → (Lit.int .u8 x1).wf = true → (x0.length * 16 ≤ 140737488351232 ∧ ∀ y0 ∈ x0, y0.size ≤ 140737488351232) → x2.size ≤ 140737488351232 → ∃ k, archivistlaw01_QuoteAmong.f k x0 x1 x2 = some true
/-- what the walk asks: for arguments of so great a bulk at most -/
def archivistlaw01_QuoteAmong.PureU : Prop := ∀ (x0 : List (ByteArray)) (x1 : Int) (x2 : ByteArray), (x0.length ≤ maxLen ∧ ∀ y0 ∈ x0, True) → (Lit.int .u8 x1).wf = true → ((x0.map fun y0 => (y0.size + 1)).sum + 1) + 1 + (x2.size + 1) ≤ 1048576 → ∃ k, archivistlaw01_QuoteAmong.f k x0 x1 x2 = some true
end Go.Proofs.Ytifcnblgpnfehaa.X
