-- Laid by rows.py, a program of this session's.
import Derived.Test.YtdnicaponolmmaaDoorX8
import Derived.Test.YtdnicaponolmmaaDoorK
namespace Go.Proofs.YtdnicaponolmmaaDoor.X
open Go.RowKit Go.Proofs.YtdnicaponolmmaaDoor.B Go.Proofs.YtdnicaponolmmaaDoorW.PrintWords Go.Proofs.YtdnicaponolmmaaDoorW.PrintLast
set_option linter.unusedVariables false
set_option linter.unusedSimpArgs false
/-- what the walk asks: for arguments whose strings and slices weigh no more than a machine bears -/
def archivistlaw02_NumLeast.PureS : Prop := ∀ (x0 : Int) (x1 : List (Int)), (Lit.int .i64 x0).wf = true → (x1.length ≤ maxLen ∧ ∀ y0 ∈ x1, (Lit.int .i64 y0).wf = true) → (x1.length * 8 ≤ 140737488351232 ∧ ∀ y0 ∈ x1, True) → ∃ k, archivistlaw02_NumLeast.f k x0 x1 = some true
/-- what the walk asks: for arguments of so great a bulk at most -/
def archivistlaw02_NumLeast.PureU : Prop := ∀ (x0 : Int) (x1 : List (Int)), (Lit.int .i64 x0).wf = true → (x1.length ≤ maxLen ∧ ∀ y0 ∈ x1, (Lit.int .i64 y0).wf = true) → 1 + ((x1.map fun y0 => 1).sum + 1) ≤ 1048576 → ∃ k, archivistlaw02_NumLeast.f k x0 x1 = some true
end Go.Proofs.YtdnicaponolmmaaDoor.X
