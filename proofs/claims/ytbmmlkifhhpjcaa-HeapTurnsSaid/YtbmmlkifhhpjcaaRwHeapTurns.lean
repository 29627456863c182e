-- Laid by rows.py, a program of this session's.
import Derived.Test.YtbmmlkifhhpjcaaX92
import Derived.Test.YtbmmlkifhhpjcaaK
namespace Go.Proofs.Ytbmmlkifhhpjcaa.X
open Go.RowKit Go.Proofs.Ytbmmlkifhhpjcaa.B Go.Proofs.YtbmmlkifhhpjcaaW.PrintWords Go.Proofs.YtbmmlkifhhpjcaaW.PrintLast
set_option linter.unusedVariables false
set_option linter.unusedSimpArgs false
/-- what the walk asks: for arguments whose strings and slices weigh no more than a machine bears -/
def archivistlaw15_HeapTurns.PureS : Prop := ∀ (x0 : List (Int)) (x1 : Int), (x0.length ≤ maxLen ∧ ∀ y0 ∈ x0, (Lit.int .u8 y0).wf = true) → (Lit.int .u8 x1).wf = true → (x0.length * 1 ≤ 140737488351232 ∧ ∀ y0 ∈ x0, True) → archivistlaw15_HeapTurns.f x0 x1 = some true
/-- what the walk asks: for arguments of so great a bulk at most -/
def archivistlaw15_HeapTurns.PureU : Prop := ∀ (x0 : List (Int)) (x1 : Int), (x0.length ≤ maxLen ∧ ∀ y0 ∈ x0, (Lit.int .u8 y0).wf = true) → (Lit.int .u8 x1).wf = true → ((x0.map fun y0 => 1).sum + 1) + 1 ≤ 1048576 → archivistlaw15_HeapTurns.f x0 x1 = some true
end Go.Proofs.Ytbmmlkifhhpjcaa.X
