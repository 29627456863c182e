-- Laid by rows.py, a program of this session's.
import Derived.Test.YtbkhgldinmabiaaX27
import Derived.Test.YtbkhgldinmabiaaK
namespace Go.Proofs.Ytbkhgldinmabiaa.X
open Go.RowKit Go.Proofs.Ytbkhgldinmabiaa.B Go.Proofs.YtbkhgldinmabiaaW.PrintWords Go.Proofs.YtbkhgldinmabiaaW.PrintLast
set_option linter.unusedVariables false
set_option linter.unusedSimpArgs false
def g29 (x : S29) : Prop := (True) ∧ (True)
def m29 (x : S29) : Nat := (x.f0.size + 1) + (x.f1.size + 1)
def T29 (B : Nat) (x : S29) : Prop := (x.f0.size ≤ B) ∧ (x.f1.size ≤ B)
theorem op29 : Opn Try.prog 29 k29 g29 m29 T29 :=
  Opn.struct2 Try.underlying29 (by kernel_rfl) (Opn.string Try.underlying9 (by kernel_rfl)) (Opn.string Try.underlying9 (by kernel_rfl)) rfl rfl (fun x : S29 => (x.f0, x.f1)) (fun a b => (⟨a, b⟩ : S29)) (fun _ _ => rfl)
def g76 (x : S76) : Prop := (g29 x.f0) ∧ (True) ∧ ((Lit.int .u8 x.f2).wf = true)
def m76 (x : S76) : Nat := (m29 x.f0) + 1 + 1
def T76 (B : Nat) (x : S76) : Prop := (T29 B x.f0) ∧ (True) ∧ (True)
theorem op76 : Opn Try.prog 76 k76 g76 m76 T76 :=
  Opn.struct3 Try.underlying76 (by kernel_rfl) op29 (Opn.bool Try.underlying4 (by kernel_rfl)) (Opn.int Try.underlying5 (by kernel_rfl)) rfl rfl rfl (fun x : S76 => (x.f0, x.f1, x.f2)) (fun a b c => (⟨a, b, c⟩ : S76)) (fun _ _ _ => rfl)
/-- what the walk asks: for arguments whose strings and slices weigh no more than a machine bears -/
def archivistlaw06_LabelParses.PureS : Prop := ∀ (x0 : List (S76)) (x1 : ByteArray) (x2 : Int) (x3 : Int) (x4 : Int), (x0.length ≤ maxLen ∧ ∀ y0 ∈ x0, g76 y0) → (Lit.int .u8 x2).wf = true → (Lit.int .i64 x3).wf = true → (Lit.int .u8 x4).wf = true → (x0.length * 40 ≤ 140737488351232 ∧ ∀ y0 ∈ x0, T76 140737488351232 y0) → x1.size ≤ 140737488351232 → ∃ k, archivistlaw06_LabelParses.f k x0 x1 x2 x3 x4 = some true
/-- what the walk asks: for arguments of so great a bulk at most -/
def archivistlaw06_LabelParses.PureU : Prop := ∀ (x0 : List (S76)) (x1 : ByteArray) (x2 : Int) (x3 : Int) (x4 : Int), (x0.length ≤ maxLen ∧ ∀ y0 ∈ x0, g76 y0) → (Lit.int .u8 x2).wf = true → (Lit.int .i64 x3).wf = true → (Lit.int .u8 x4).wf = true → ((x0.map fun y0 => (m76 y0)).sum + 1) + (x1.size + 1) + 1 + 1 + 1 ≤ 1048576 → ∃ k, archivistlaw06_LabelParses.f k x0 x1 x2 x3 x4 = some true
end Go.Proofs.Ytbkhgldinmabiaa.X
