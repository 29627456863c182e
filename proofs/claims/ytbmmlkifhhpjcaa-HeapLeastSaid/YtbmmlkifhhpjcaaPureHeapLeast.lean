/-
  The law HeapLeast of the chapter of the heap: its walk shows that it answers true, whatever the input.
-/
import Derived.Test.YtbmmlkifhhpjcaaX91
import Derived.Test.YtbmmlkifhhpjcaaRwHeapLeast
namespace Go.Proofs.Ytbmmlkifhhpjcaa.Pure
open Go.RowKit Go.Proofs.Ytbmmlkifhhpjcaa.X
set_option linter.unusedVariables false
theorem HeapLeast : archivistlaw15_HeapLeast.PureS := by
  unfold archivistlaw15_HeapLeast.PureS
  intros
  rfl
end Go.Proofs.Ytbmmlkifhhpjcaa.Pure
