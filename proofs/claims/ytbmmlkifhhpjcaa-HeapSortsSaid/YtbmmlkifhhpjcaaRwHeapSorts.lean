-- Laid by rows.py, a program of this session's.
import Derived.Test.YtbmmlkifhhpjcaaX94
import Derived.Test.YtbmmlkifhhpjcaaK
namespace Go.Proofs.Ytbmmlkifhhpjcaa.X
open Go.RowKit Go.Proofs.Ytbmmlkifhhpjcaa.B Go.Proofs.YtbmmlkifhhpjcaaW.PrintWords Go.Proofs.YtbmmlkifhhpjcaaW.PrintLast
set_option linter.unusedVariables false
set_option linter.unusedSimpArgs false
/-- what the walk asks: for arguments whose strings and slices weigh no more than a machine bears -/
def archivistlaw15_HeapSorts.PureS : Prop := ∀ (x0 : List (ByteArray)) (x1 : Int), (x0.length ≤ maxLen ∧ ∀ y0 ∈ x0, True) → (Lit.int .u8 x1).wf = true → (x0.length * 16 ≤ 140737488351232 ∧ ∀ y0 ∈ x0, y0.size ≤ 140737488351232) → archivistlaw15_HeapSorts.f x0 x1 = some true
/-- what the walk asks: for arguments of so great a bulk at most -/
def archivistlaw15_HeapSorts.PureU : Prop := ∀ (x0 : List (ByteArray)) (x1 : Int), (x0.length ≤ maxLen ∧ ∀ y0 ∈ x0, True) → (Lit.int .u8 x1).wf = true → ((x0.map fun y0 => (y0.size + 1)).sum + 1) + 1 ≤ 1048576 → archivistlaw15_HeapSorts.f x0 x1 = some true
end Go.Proofs.Ytbmmlkifhhpjcaa.X
