-- Laid by rows.py, a program of this session's.
import Derived.Test.YtjmbddgbojcpmaaDoorX17
import Derived.Test.YtjmbddgbojcpmaaDoorK
namespace Go.Proofs.YtjmbddgbojcpmaaDoor.X
open Go.RowKit Go.Proofs.YtjmbddgbojcpmaaDoor.B Go.Proofs.YtjmbddgbojcpmaaDoorW.PrintWords Go.Proofs.YtjmbddgbojcpmaaDoorW.PrintLast
set_option linter.unusedVariables false
set_option linter.unusedSimpArgs false
def g48 (x : S48) : Prop := (True) ∧ (True)
def m48 (x : S48) : Nat := (x.f0.size + 1) + (x.f1.size + 1)
def T48 (B : Nat) (x : S48) : Prop := (x.f0.size ≤ B) ∧ (x.f1.size ≤ B)
theorem op48 : Opn Tryd.prog 48 k48 g48 m48 T48 :=
  Opn.struct2 Tryd.underlying48 (by kernel_rfl) (Opn.string Tryd.underlying9 (by kernel_rfl)) (Opn.string Tryd.underlying9 (by kernel_rfl)) rfl rfl (fun x : S48 => (x.f0, x.f1)) (fun a b => (⟨a, b⟩ : S48)) (fun _ _ => rfl)
def g25 (x : S25) : Prop := ((Lit.int .i64 x.f0).wf = true) ∧ ((x.f1.length ≤ maxLen ∧ ∀ y0 ∈ x.f1, g48 y0)) ∧ (True)
def m25 (x : S25) : Nat := 1 + ((x.f1.map fun y0 => (m48 y0)).sum + 1) + (x.f2.size + 1)
def T25 (B : Nat) (x : S25) : Prop := (True) ∧ ((x.f1.length * 32 ≤ B ∧ ∀ y0 ∈ x.f1, T48 B y0)) ∧ (x.f2.size ≤ B)
theorem op25 : Opn Tryd.prog 25 k25 g25 m25 T25 :=
  Opn.struct3 Tryd.underlying25 (by kernel_rfl) (Opn.int Tryd.underlying2 (by kernel_rfl)) (Opn.slice 48 32 (by kernel_rfl) Tryd.underlying23 (by kernel_rfl) op48 z48) (Opn.string Tryd.underlying9 (by kernel_rfl)) rfl rfl rfl (fun x : S25 => (x.f0, x.f1, x.f2)) (fun a b c => (⟨a, b, c⟩ : S25)) (fun _ _ _ => rfl)
def g71 (x : S71) : Prop := (g48 x.f0) ∧ (True) ∧ ((Lit.int .u8 x.f2).wf = true)
def m71 (x : S71) : Nat := (m48 x.f0) + 1 + 1
def T71 (B : Nat) (x : S71) : Prop := (T48 B x.f0) ∧ (True) ∧ (True)
theorem op71 : Opn Tryd.prog 71 k71 g71 m71 T71 :=
  Opn.struct3 Tryd.underlying71 (by kernel_rfl) op48 (Opn.bool Tryd.underlying4 (by kernel_rfl)) (Opn.int Tryd.underlying5 (by kernel_rfl)) rfl rfl rfl (fun x : S71 => (x.f0, x.f1, x.f2)) (fun a b c => (⟨a, b, c⟩ : S71)) (fun _ _ _ => rfl)
def g29 (x : S29) : Prop := (g25 x.f0) ∧ (True) ∧ ((Lit.int .i8 x.f2).wf = true) ∧ ((x.f3.length ≤ maxLen ∧ ∀ y0 ∈ x.f3, g71 y0)) ∧ ((Lit.int .u8 x.f4).wf = true)
def m29 (x : S29) : Nat := (m25 x.f0) + 1 + 1 + ((x.f3.map fun y0 => (m71 y0)).sum + 1) + 1
def T29 (B : Nat) (x : S29) : Prop := (T25 B x.f0) ∧ (True) ∧ (True) ∧ ((x.f3.length * 40 ≤ B ∧ ∀ y0 ∈ x.f3, T71 B y0)) ∧ (True)
theorem op29 : Opn Tryd.prog 29 k29 g29 m29 T29 :=
  Opn.struct5 Tryd.underlying29 (by kernel_rfl) op25 (Opn.bool Tryd.underlying4 (by kernel_rfl)) (Opn.int Tryd.underlying26 (by kernel_rfl)) (Opn.slice 71 40 (by kernel_rfl) Tryd.underlying27 (by kernel_rfl) op71 z71) (Opn.int Tryd.underlying5 (by kernel_rfl)) rfl rfl rfl rfl rfl (fun x : S29 => (x.f0, x.f1, x.f2, x.f3, x.f4)) (fun a b c d e => (⟨a, b, c, d, e⟩ : S29)) (fun _ _ _ _ _ => rfl)
/-- what the walk asks: for arguments whose strings and slices weigh no more than a machine bears -/
def archivistlaw13_EntryBack.PureS : Prop := ∀ (x0 : S29) (x1 : S29) (x2 : ByteArray) (x3 : Int), g29 x0 → g29 x1 → (Lit.int .u16 x3).wf = true → T29 140737488351232 x0 → T29 140737488351232 x1 → x2.size ≤ 140737488351232 → ∃ k, archivistlaw13_EntryBack.f k x0.f0.f0 x0.f0.f1 x0.f0.f2 x0.f1 x0.f2 x0.f3 x0.f4 x1.f0.f0 x1.f0.f1 x1.f0.f2 x1.f1 x1.f2 x1.f3 x1.f4 x2 x3 = some true
/-- what the walk asks: for arguments of so great a bulk at most -/
def archivistlaw13_EntryBack.PureU : Prop := ∀ (x0 : S29) (x1 : S29) (x2 : ByteArray) (x3 : Int), g29 x0 → g29 x1 → (Lit.int .u16 x3).wf = true → (m29 x0) + (m29 x1) + (x2.size + 1) + 1 ≤ 1048576 → ∃ k, archivistlaw13_EntryBack.f k x0.f0.f0 x0.f0.f1 x0.f0.f2 x0.f1 x0.f2 x0.f3 x0.f4 x1.f0.f0 x1.f0.f1 x1.f0.f2 x1.f1 x1.f2 x1.f3 x1.f4 x2 x3 = some true
end Go.Proofs.YtjmbddgbojcpmaaDoor.X
