-- Laid by rows.py, a program of this session's.
import Derived.Test.YtifcnblgpnfehaaX10
import Derived.Test.YtifcnblgpnfehaaK
namespace Go.Proofs.Ytifcnblgpnfehaa.X
open Go.RowKit Go.Proofs.YtifcnblgpnfehaaW.PrintWords Go.Proofs.YtifcnblgpnfehaaW.PrintLast
set_option linter.unusedVariables false
set_option linter.unusedSimpArgs false
/-- what the walk asks: for arguments whose strings and slices weigh no more than a machine bears -/
def archivistlaw01_QuoteParts.PureS : Prop := ∀ (x0 : ByteArray) (x1 : List (ByteArray)) (x2 : List (ByteArray)) (x3 : Int), (x1.length ≤ maxLen ∧ ∀ y0 ∈ x1, True) → (x2.length ≤ maxLen ∧ ∀ y0 ∈ x2, True) → (Lit.int .u8 x3).wf = true → x0.size ≤ 140737488351232 → (x1.length * 16 ≤ 140737488351232 ∧ ∀ y0 ∈ x1, y0.size ≤ 140737488351232) → (x2.length * 16 ≤ 140737488351232 ∧ ∀ y0 ∈ x2, y0.size ≤ 140737488351232) → ∃ k, archivistlaw01_QuoteParts.f k x0 x1 x2 x3 = some true
/-- what the walk asks: for arguments of so great a bulk at most -/
def archivistlaw01_QuoteParts.PureU : Prop := ∀ (x0 : ByteArray) (x1 : List (ByteArray)) (x2 : List (ByteArray)) (x3 : Int), (x1.length ≤ maxLen ∧ ∀ y0 ∈ x1, True) → (x2.length ≤ maxLen ∧ ∀ y0 ∈ x2, True) → (Lit.int .u8 x3).wf = true → (x0.size + 1) + ((x1.map fun y0 => (y0.size + 1)).sum + 1) + ((x2.map fun y0 => (y0.size + 1)).sum + 1) + 1 ≤ 1048576 → ∃ k, archivistlaw01_QuoteParts.f k x0 x1 x2 x3 = some true
end Go.Proofs.Ytifcnblgpnfehaa.X
