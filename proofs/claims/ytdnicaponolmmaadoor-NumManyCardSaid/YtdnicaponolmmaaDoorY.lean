/-
  What the examples of the laws of package num tell, for the seat YtdnicaponolmmaaDoor.
-/
import Derived.Test.YtdnicaponolmmaaDoorX2
import Derived.Test.YtdnicaponolmmaaDoorT
set_option linter.unusedVariables false
set_option linter.unusedSimpArgs false
namespace Go.Proofs.YtdnicaponolmmaaDoor.Pure
open Go.RowKit Go.Proofs.YtdnicaponolmmaaDoor.X Go.Proofs.YtdnicaponolmmaaDoor.B Go.Proofs.YtdnicaponolmmaaDoorW.PrintWords Go.Proofs.YtdnicaponolmmaaDoorW.PrintLast

theorem Ev.is {α : Type} {x : Option α} {r : α} (h : x = some r) : Ev (fun _ => x) r := by rw [h]; exact Ev.now r
set_option maxRecDepth 100000 in
theorem numExamples_ev : Ev (fun k => archivistlaw02_examples.f k) true :=
  Ev.of (k := 30) (fun k => archivistlaw02_examples.mono k) (by kernel_rfl)
theorem fold2 (g : Int → Int → Int) (n a b : Int) (ha : in64 (g n a)) : foldP g n [a, b] = if in64 (g (g n a) b) then (g (g n a) b, true) else (0, false) := by
  simp only [foldP]
  rw [if_pos ha]
theorem add2 {a b : Int} (ha : in64 a) (hb : in64 b) : Ev (fun k => num_Add.f k [a, b]) (if in64 (a + b) then (a + b, true) else (0, false)) := by
  have h := numAdd_ev [a, b] (by intro x hx; simp at hx; rcases hx with rfl | rfl <;> assumption) (by simp)
  rw [fold2 (· + ·) 0 a b (by rw [Int.zero_add]; exact ha), Int.zero_add] at h
  exact h
theorem mul2 {a b : Int} (ha : in64 a) (hb : in64 b) : Ev (fun k => num_Mul.f k [a, b]) (if in64 (a * b) then (a * b, true) else (0, false)) := by
  have h := numMul_ev [a, b] (by intro x hx; simp at hx; rcases hx with rfl | rfl <;> assumption) (by simp)
  rw [fold2 (· * ·) 1 a b (by rw [Int.one_mul]; exact ha), Int.one_mul] at h
  exact h
end Go.Proofs.YtdnicaponolmmaaDoor.Pure
