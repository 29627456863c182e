-- Laid by rows.py, a program of this session's.
import Derived.Test.YtaehlbbjbeibfaaX63
import Derived.Test.YtaehlbbjbeibfaaK
namespace Go.Proofs.Ytaehlbbjbeibfaa.X
open Go.RowKit Go.Proofs.Ytaehlbbjbeibfaa.B Go.Proofs.YtaehlbbjbeibfaaW.PrintWords Go.Proofs.YtaehlbbjbeibfaaW.PrintLast
set_option linter.unusedVariables false
set_option linter.unusedSimpArgs false
def g103 (x : S103) : Prop := (True) ∧ (True)
def m103 (x : S103) : Nat := (x.f0.size + 1) + (x.f1.size + 1)
def T103 (B : Nat) (x : S103) : Prop := (x.f0.size ≤ B) ∧ (x.f1.size ≤ B)
theorem op103 : Opn Try.prog 103 k103 g103 m103 T103 :=
  Opn.struct2 Try.underlying103 (by kernel_rfl) (Opn.string Try.underlying9 (by kernel_rfl)) (Opn.string Try.underlying9 (by kernel_rfl)) rfl rfl (fun x : S103 => (x.f0, x.f1)) (fun a b => (⟨a, b⟩ : S103)) (fun _ _ => rfl)
def g26 (x : S26) : Prop := ((Lit.int .i64 x.f0).wf = true) ∧ ((x.f1.length ≤ maxLen ∧ ∀ y0 ∈ x.f1, g103 y0)) ∧ (True)
def m26 (x : S26) : Nat := 1 + ((x.f1.map fun y0 => (m103 y0)).sum + 1) + (x.f2.size + 1)
def T26 (B : Nat) (x : S26) : Prop := (True) ∧ ((x.f1.length * 32 ≤ B ∧ ∀ y0 ∈ x.f1, T103 B y0)) ∧ (x.f2.size ≤ B)
theorem op26 : Opn Try.prog 26 k26 g26 m26 T26 :=
  Opn.struct3 Try.underlying26 (by kernel_rfl) (Opn.int Try.underlying2 (by kernel_rfl)) (Opn.slice 103 32 (by kernel_rfl) Try.underlying24 (by kernel_rfl) op103 z103) (Opn.string Try.underlying9 (by kernel_rfl)) rfl rfl rfl (fun x : S26 => (x.f0, x.f1, x.f2)) (fun a b c => (⟨a, b, c⟩ : S26)) (fun _ _ _ => rfl)
def g105 (x : S105) : Prop := (g103 x.f0) ∧ (True) ∧ ((Lit.int .u8 x.f2).wf = true)
def m105 (x : S105) : Nat := (m103 x.f0) + 1 + 1
def T105 (B : Nat) (x : S105) : Prop := (T103 B x.f0) ∧ (True) ∧ (True)
theorem op105 : Opn Try.prog 105 k105 g105 m105 T105 :=
  Opn.struct3 Try.underlying105 (by kernel_rfl) op103 (Opn.bool Try.underlying4 (by kernel_rfl)) (Opn.int Try.underlying5 (by kernel_rfl)) rfl rfl rfl (fun x : S105 => (x.f0, x.f1, x.f2)) (fun a b c => (⟨a, b, c⟩ : S105)) (fun _ _ _ => rfl)
def g30 (x : S30) : Prop := (g26 x.f0) ∧ (True) ∧ ((Lit.int .i8 x.f2).wf = true) ∧ ((x.f3.length ≤ maxLen ∧ ∀ y0 ∈ x.f3, g105 y0)) ∧ ((Lit.int .u8 x.f4).wf = true)
def m30 (x : S30) : Nat := (m26 x.f0) + 1 + 1 + ((x.f3.map fun y0 => (m105 y0)).sum + 1) + 1
def T30 (B : Nat) (x : S30) : Prop := (T26 B x.f0) ∧ (True) ∧ (True) ∧ ((x.f3.length * 40 ≤ B ∧ ∀ y0 ∈ x.f3, T105 B y0)) ∧ (True)
theorem op30 : Opn Try.prog 30 k30 g30 m30 T30 :=
  Opn.struct5 Try.underlying30 (by kernel_rfl) op26 (Opn.bool Try.underlying4 (by kernel_rfl)) (Opn.int Try.underlying27 (by kernel_rfl)) (Opn.slice 105 40 (by kernel_rfl) Try.underlying28 (by kernel_rfl) op105 z105) (Opn.int Try.underlying5 (by kernel_rfl)) rfl rfl rfl rfl rfl (fun x : S30 => (x.f0, x.f1, x.f2, x.f3, x.f4)) (fun a b c d e => (⟨a, b, c, d, e⟩ : S30)) (fun _ _ _ _ _ => rfl)
/-- what the walk asks: for arguments whose strings and slices weigh no more than a machine bears -/
def archivistlaw16_MergeSpread.PureS : Prop := ∀ (x0 : List (S30)) (x1 : List (Int)) (x2 : Bool), (x0.length ≤ maxLen ∧ ∀ y0 ∈ x0, g30 y0) → (x1.length ≤ maxLen ∧ ∀ y0 ∈ x1, (Lit.int .u8 y0).wf = true) → (x0.length * 88 ≤ 140737488351232 ∧ ∀ y0 ∈ x0, T30 140737488351232 y0) → (x1.length * 1 ≤ 140737488351232 ∧ ∀ y0 ∈ x1, True) → ∃ k, archivistlaw16_MergeSpread.f k x0 x1 x2 = some true
/-- what the walk asks: for arguments of so great a bulk at most -/
def archivistlaw16_MergeSpread.PureU : Prop := ∀ (x0 : List (S30)) (x1 : List (Int)) (x2 : Bool), (x0.length ≤ maxLen ∧ ∀ y0 ∈ x0, g30 y0) → (x1.length ≤ maxLen ∧ ∀ y0 ∈ x1, (Lit.int .u8 y0).wf = true) → ((x0.map fun y0 => (m30 y0)).sum + 1) + ((x1.map fun y0 => 1).sum + 1) + 1 ≤ 1048576 → ∃ k, archivistlaw16_MergeSpread.f k x0 x1 x2 = some true
end Go.Proofs.Ytaehlbbjbeibfaa.X
