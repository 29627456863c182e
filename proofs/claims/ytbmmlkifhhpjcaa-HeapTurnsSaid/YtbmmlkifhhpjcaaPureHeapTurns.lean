/-
  The law HeapTurns of the chapter of the heap: its walk shows that it answers true, whatever the input.
-/
import Derived.Test.YtbmmlkifhhpjcaaX92
import Derived.Test.YtbmmlkifhhpjcaaRwHeapTurns
namespace Go.Proofs.Ytbmmlkifhhpjcaa.Pure
open Go.RowKit Go.Proofs.Ytbmmlkifhhpjcaa.X
set_option linter.unusedVariables false
theorem HeapTurns : archivistlaw15_HeapTurns.PureS := by
  unfold archivistlaw15_HeapTurns.PureS
  intros
  rfl
end Go.Proofs.Ytbmmlkifhhpjcaa.Pure
