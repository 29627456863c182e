-- Laid by rows.py, a program of this session's.
import Derived.Test.YtielpefbgdilaaaX17
import Derived.Test.YtielpefbgdilaaaK
namespace Go.Proofs.Ytielpefbgdilaaa.X
open Go.RowKit Go.Proofs.Ytielpefbgdilaaa.B Go.Proofs.YtielpefbgdilaaaW.PrintWords Go.Proofs.YtielpefbgdilaaaW.PrintLast
set_option linter.unusedVariables false
set_option linter.unusedSimpArgs false
/-- what the walk asks: for arguments whose strings and slices weigh no more than a machine bears -/
def archivistlaw10_LogfmtMany.PureS : Prop := ∀ (x0 : List (Int)) (x1 : Int), (x0.length ≤ maxLen ∧ ∀ y0 ∈ x0, (Lit.int .u8 y0).wf = true) → (Lit.int .u8 x1).wf = true → (x0.length * 1 ≤ 140737488351232 ∧ ∀ y0 ∈ x0, True) → ∃ k, archivistlaw10_LogfmtMany.f k x0 x1 = some true
/-- what the walk asks: for arguments of so great a bulk at most -/
def archivistlaw10_LogfmtMany.PureU : Prop := ∀ (x0 : List (Int)) (x1 : Int), (x0.length ≤ maxLen ∧ ∀ y0 ∈ x0, (Lit.int .u8 y0).wf = true) → (Lit.int .u8 x1).wf = true → ((x0.map fun y0 => 1).sum + 1) + 1 ≤ 1048576 → ∃ k, archivistlaw10_LogfmtMany.f k x0 x1 = some true
end Go.Proofs.Ytielpefbgdilaaa.X
