/-
  The law HeapPlays of the chapter of the heap: its walk shows that it answers true, whatever the input.
-/
import Derived.Test.YtbmmlkifhhpjcaaX93
import Derived.Test.YtbmmlkifhhpjcaaRwHeapPlays
namespace Go.Proofs.Ytbmmlkifhhpjcaa.Pure
open Go.RowKit Go.Proofs.Ytbmmlkifhhpjcaa.X
set_option linter.unusedVariables false
theorem HeapPlays : archivistlaw15_HeapPlays.PureS := by
  unfold archivistlaw15_HeapPlays.PureS
  intros
  rfl
end Go.Proofs.Ytbmmlkifhhpjcaa.Pure
