-- Laid by rows.py, a program of this session's.
import Derived.Test.YtdnicaponolmmaaDoorX8
import Derived.Test.YtdnicaponolmmaaDoorK
namespace Go.Proofs.YtdnicaponolmmaaDoor.X
open Go.RowKit Go.Proofs.YtdnicaponolmmaaDoor.B Go.Proofs.YtdnicaponolmmaaDoorW.PrintWords Go.Proofs.YtdnicaponolmmaaDoorW.PrintLast
set_option linter.unusedVariables false
set_option linter.unusedSimpArgs false
/-- what the walk asks: for arguments whose strings and slices weigh no more than a machine bears -/
def archivistlaw02_NumMany.PureS : Prop := ∀ (x0 : List (Int)) (x1 : Bool), (x0.length ≤ maxLen ∧ ∀ y0 ∈ x0, (Lit.int .i64 y0).wf = true) → (x0.length * 8 ≤ 140737488351232 ∧ ∀ y0 ∈ x0, True) → ∃ k, archivistlaw02_NumMany.f k x0 x1 = some true
/-- what the walk asks: for arguments of so great a bulk at most -/
def archivistlaw02_NumMany.PureU : Prop := ∀ (x0 : List (Int)) (x1 : Bool), (x0.length ≤ maxLen ∧ ∀ y0 ∈ x0, (Lit.int .i64 y0).wf = true) → ((x0.map fun y0 => 1).sum + 1) + 1 ≤ 1048576 → ∃ k, archivistlaw02_NumMany.f k x0 x1 = some true
end Go.Proofs.YtdnicaponolmmaaDoor.X
