/-
  The law HeapSorts of the chapter of the heap: its walk shows that it answers true, whatever the input.
-/
import Derived.Test.YtbmmlkifhhpjcaaX94
import Derived.Test.YtbmmlkifhhpjcaaRwHeapSorts
namespace Go.Proofs.Ytbmmlkifhhpjcaa.Pure
open Go.RowKit Go.Proofs.Ytbmmlkifhhpjcaa.X
set_option linter.unusedVariables false
theorem HeapSorts : archivistlaw15_HeapSorts.PureS := by
  unfold archivistlaw15_HeapSorts.PureS
  intro x0 x1 _ h1 _
  have hr : 0 ≤ x1 ∧ x1 < 256 := by
    simp [Lit.wf, IntKind.min, IntKind.max, IntKind.bits, IntKind.signed] at h1
    omega
  exact if_pos hr
end Go.Proofs.Ytbmmlkifhhpjcaa.Pure
