-- Laid by rows.py, a program of this session's.
import Derived.Test.YtielpefbgdilaaaX20
import Derived.Test.YtielpefbgdilaaaK
namespace Go.Proofs.Ytielpefbgdilaaa.X
open Go.RowKit Go.Proofs.Ytielpefbgdilaaa.B Go.Proofs.YtielpefbgdilaaaW.PrintWords Go.Proofs.YtielpefbgdilaaaW.PrintLast
set_option linter.unusedVariables false
set_option linter.unusedSimpArgs false
def g39 (x : S39) : Prop := (True) ∧ (True)
def m39 (x : S39) : Nat := (x.f0.size + 1) + (x.f1.size + 1)
def T39 (B : Nat) (x : S39) : Prop := (x.f0.size ≤ B) ∧ (x.f1.size ≤ B)
theorem op39 : Opn Try.prog 39 k39 g39 m39 T39 :=
  Opn.struct2 Try.underlying39 (by kernel_rfl) (Opn.string Try.underlying9 (by kernel_rfl)) (Opn.string Try.underlying9 (by kernel_rfl)) rfl rfl (fun x : S39 => (x.f0, x.f1)) (fun a b => (⟨a, b⟩ : S39)) (fun _ _ => rfl)
def g41 (x : S41) : Prop := (g39 x.f0) ∧ (True) ∧ ((Lit.int .u8 x.f2).wf = true)
def m41 (x : S41) : Nat := (m39 x.f0) + 1 + 1
def T41 (B : Nat) (x : S41) : Prop := (T39 B x.f0) ∧ (True) ∧ (True)
theorem op41 : Opn Try.prog 41 k41 g41 m41 T41 :=
  Opn.struct3 Try.underlying41 (by kernel_rfl) op39 (Opn.bool Try.underlying4 (by kernel_rfl)) (Opn.int Try.underlying5 (by kernel_rfl)) rfl rfl rfl (fun x : S41 => (x.f0, x.f1, x.f2)) (fun a b c => (⟨a, b, c⟩ : S41)) (fun _ _ _ => rfl)
/-- what the walk asks: for arguments whose strings and slices weigh no more than a machine bears -/
def archivistlaw10_LogfmtTells.PureS : Prop := ∀ (x0 : ByteArray) (x1 : Bool) (x2 : List (Int)) (x3 : List (S41)), (x2.length ≤ maxLen ∧ ∀ y0 ∈ x2, (Lit.int .u8 y0).wf = true) → (x3.length ≤ maxLen ∧ ∀ y0 ∈ x3, g41 y0) → x0.size ≤ 140737488351232 → (x2.length * 1 ≤ 140737488351232 ∧ ∀ y0 ∈ x2, True) → (x3.length * 40 ≤ 140737488351232 ∧ ∀ y0 ∈ x3, T41 140737488351232 y0) → ∃ k, archivistlaw10_LogfmtTells.f k x0 x1 x2 x3 = some true
/-- what the walk asks: for arguments of so great a bulk at most -/
def archivistlaw10_LogfmtTells.PureU : Prop := ∀ (x0 : ByteArray) (x1 : Bool) (x2 : List (Int)) (x3 : List (S41)), (x2.length ≤ maxLen ∧ ∀ y0 ∈ x2, (Lit.int .u8 y0).wf = true) → (x3.length ≤ maxLen ∧ ∀ y0 ∈ x3, g41 y0) → (x0.size + 1) + 1 + ((x2.map fun y0 => 1).sum + 1) + ((x3.map fun y0 => (m41 y0)).sum + 1) ≤ 1048576 → ∃ k, archivistlaw10_LogfmtTells.f k x0 x1 x2 x3 = some true
end Go.Proofs.Ytielpefbgdilaaa.X
