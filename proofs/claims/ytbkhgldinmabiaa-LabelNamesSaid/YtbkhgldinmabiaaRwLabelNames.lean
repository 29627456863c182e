-- Laid by rows.py, a program of this session's.
import Derived.Test.YtbkhgldinmabiaaX30
import Derived.Test.YtbkhgldinmabiaaK
namespace Go.Proofs.Ytbkhgldinmabiaa.X
open Go.RowKit Go.Proofs.Ytbkhgldinmabiaa.B Go.Proofs.YtbkhgldinmabiaaW.PrintWords Go.Proofs.YtbkhgldinmabiaaW.PrintLast
set_option linter.unusedVariables false
set_option linter.unusedSimpArgs false
/-- what the walk asks: for arguments whose strings and slices weigh no more than a machine bears -/
def archivistlaw06_LabelNames.PureS : Prop := ∀ (x0 : ByteArray) (x1 : Bool) (x2 : List (Int)) (x3 : Int), (x2.length ≤ maxLen ∧ ∀ y0 ∈ x2, (Lit.int .u8 y0).wf = true) → (Lit.int .u8 x3).wf = true → x0.size ≤ 140737488351232 → (x2.length * 1 ≤ 140737488351232 ∧ ∀ y0 ∈ x2, True) → ∃ k, archivistlaw06_LabelNames.f k x0 x1 x2 x3 = some true
/-- what the walk asks: for arguments of so great a bulk at most -/
def archivistlaw06_LabelNames.PureU : Prop := ∀ (x0 : ByteArray) (x1 : Bool) (x2 : List (Int)) (x3 : Int), (x2.length ≤ maxLen ∧ ∀ y0 ∈ x2, (Lit.int .u8 y0).wf = true) → (Lit.int .u8 x3).wf = true → (x0.size + 1) + 1 + ((x2.map fun y0 => 1).sum + 1) + 1 ≤ 1048576 → ∃ k, archivistlaw06_LabelNames.f k x0 x1 x2 x3 = some true
end Go.Proofs.Ytbkhgldinmabiaa.X
