-- Laid by rows.py, a program of this session's.
import Derived.Test.YtbmmlkifhhpjcaaX93
import Derived.Test.YtbmmlkifhhpjcaaK
namespace Go.Proofs.Ytbmmlkifhhpjcaa.X
open Go.RowKit Go.Proofs.Ytbmmlkifhhpjcaa.B Go.Proofs.YtbmmlkifhhpjcaaW.PrintWords Go.Proofs.YtbmmlkifhhpjcaaW.PrintLast
set_option linter.unusedVariables false
set_option linter.unusedSimpArgs false
def g33 (x : S33) : Prop := ((Lit.int .u8 x.f0).wf = true) ∧ ((x.f1.length ≤ maxLen ∧ ∀ y0 ∈ x.f1, (Lit.int .i64 y0).wf = true))
def m33 (x : S33) : Nat := 1 + ((x.f1.map fun y0 => 1).sum + 1)
def T33 (B : Nat) (x : S33) : Prop := (True) ∧ ((x.f1.length * 8 ≤ B ∧ ∀ y0 ∈ x.f1, True))
theorem op33 : Opn Try.prog 33 k33 g33 m33 T33 :=
  Opn.struct2 Try.underlying33 (by kernel_rfl) (Opn.int Try.underlying5 (by kernel_rfl)) (Opn.slice 3 8 (by kernel_rfl) Try.underlying22 (by kernel_rfl) (Opn.int Try.underlying3 (by kernel_rfl)) (0 : Int)) rfl rfl (fun x : S33 => (x.f0, x.f1)) (fun a b => (⟨a, b⟩ : S33)) (fun _ _ => rfl)
/-- what the walk asks: for arguments whose strings and slices weigh no more than a machine bears -/
def archivistlaw15_HeapPlays.PureS : Prop := ∀ (x0 : List (Int)) (x1 : List (S33)), (x0.length ≤ maxLen ∧ ∀ y0 ∈ x0, (Lit.int .i64 y0).wf = true) → (x1.length ≤ maxLen ∧ ∀ y0 ∈ x1, g33 y0) → (x0.length * 8 ≤ 140737488351232 ∧ ∀ y0 ∈ x0, True) → (x1.length * 32 ≤ 140737488351232 ∧ ∀ y0 ∈ x1, T33 140737488351232 y0) → archivistlaw15_HeapPlays.f x0 x1 = some true
/-- what the walk asks: for arguments of so great a bulk at most -/
def archivistlaw15_HeapPlays.PureU : Prop := ∀ (x0 : List (Int)) (x1 : List (S33)), (x0.length ≤ maxLen ∧ ∀ y0 ∈ x0, (Lit.int .i64 y0).wf = true) → (x1.length ≤ maxLen ∧ ∀ y0 ∈ x1, g33 y0) → ((x0.map fun y0 => 1).sum + 1) + ((x1.map fun y0 => (m33 y0)).sum + 1) ≤ 1048576 → archivistlaw15_HeapPlays.f x0 x1 = some true
end Go.Proofs.Ytbmmlkifhhpjcaa.X
