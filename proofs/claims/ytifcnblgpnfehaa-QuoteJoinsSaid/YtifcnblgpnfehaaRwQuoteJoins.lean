-- Laid by rows.py, a program of this session's.
import Derived.Test.YtifcnblgpnfehaaX13
import Derived.Test.YtifcnblgpnfehaaK
namespace Go.Proofs.Ytifcnblgpnfehaa.X
open Go.RowKit Go.Proofs.YtifcnblgpnfehaaW.PrintWords Go.Proofs.YtifcnblgpnfehaaW.PrintLast
set_option linter.unusedVariables false
/-- what the walk asks: for arguments whose strings and slices weigh no more than a machine bears -/
def archivistlaw01_QuoteJoins.PureS : Prop := ∀ (x0 : List (List (Int))), (x0.length ≤ maxLen ∧ ∀ y0 ∈ x0, (y0.length ≤ maxLen ∧ ∀ y1 ∈ y0, (Lit.int .u8 y1).wf = true)) → (x0.length * 24 ≤ 140737488351232 ∧ ∀ y0 ∈ x0, (y0.length * 1 ≤ 140737488351232 ∧ ∀ y1 ∈ y0, True)) → ∃ k, archivistlaw01_QuoteJoins.f k x0 = some true
/-- what the walk asks: for arguments of so great a bulk at most -/
def archivistlaw01_QuoteJoins.PureU : Prop := ∀ (x0 : List (List (Int))), (x0.length ≤ maxLen ∧ ∀ y0 ∈ x0, (y0.length ≤ maxLen ∧ ∀ y1 ∈ y0, (Lit.int .u8 y1).wf = true)) → ((x0.map fun y0 => ((y0.map fun y1 => 1).sum + 1)).sum + 1) ≤ 1048576 → ∃ k, archivistlaw01_QuoteJoins.f k x0 = some true
end Go.Proofs.Ytifcnblgpnfehaa.X
