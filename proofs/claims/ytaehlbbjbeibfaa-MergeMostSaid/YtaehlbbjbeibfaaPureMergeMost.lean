/-
  The law of the first so many of what is merged, for the seat Ytaehlbbjbeibfaa.
-/
import Derived.Test.YtaehlbbjbeibfaaX13
import Derived.Test.YtaehlbbjbeibfaaX20
import Derived.Test.YtaehlbbjbeibfaaRwMergeMost
import Derived.Test.YtaehlbbjbeibfaaI
import Derived.Test.YtaehlbbjbeibfaaIR
set_option linter.unusedVariables false
set_option linter.unusedSimpArgs false
namespace Go.Proofs.Ytaehlbbjbeibfaa.Pure
open Go.RowKit Go.Proofs.Ytaehlbbjbeibfaa.X Go.Proofs.Ytaehlbbjbeibfaa.B Go.Proofs.YtaehlbbjbeibfaaW.PrintWords Go.Proofs.YtaehlbbjbeibfaaW.PrintLast

theorem gI_of (x : Itm) (g : g30 x) (t : T30 140737488351232 x) : gI x := by
  obtain ⟨⟨g0, _, _⟩, _, g2, g3, g4⟩ := g
  obtain ⟨⟨_, t1, _⟩, _⟩ := t
  refine ⟨in64_wf g0, by have := t1.1; omega, ?_, fun y hy => ?_, ?_⟩
  · simp [Lit.wf, IntKind.min, IntKind.max, IntKind.bits, IntKind.signed] at g2
    exact g2
  · have h := (g3.2 y hy).2.2
    simp [Lit.wf, IntKind.min, IntKind.max, IntKind.bits, IntKind.signed] at h
    omega
  · simp [Lit.wf, IntKind.min, IntKind.max, IntKind.bits, IntKind.signed] at g4
    omega
theorem most_loop (C : List Ent) (n : Nat) (hC : ∀ q ∈ C, okE q) (hn : C.length ≤ 100) : ∀ (d i : Nat), (C.take n).length - i = d → i ≤ (C.take n).length → Ev (fun k => archivistlaw16_MergeMost.l0 k true C (C.take n) (i : Int)) true := by
  have hl : (C.take n).length ≤ C.length := by rw [List.length_take]; omega
  intro d
  induction d with
  | zero =>
    intro i hd hi
    refine Ev.step (fun _ => rfl) ?_
    simp only [archivistlaw16_MergeMost.l0]
    exact Ev.neg (by omega) (Ev.now _)
  | succ d ih =>
    intro i hd hi
    have hlt : i < (C.take n).length := by omega
    have hlt2 : i < C.length := by omega
    have hm := hC _ (List.getElem_mem hlt2)
    have s1 := sameE_ev C[i] C[i] hm
    rw [(ordE_stands.eq C[i] C[i]).2 rfl] at s1
    refine Ev.step (fun _ => rfl) ?_
    simp only [archivistlaw16_MergeMost.l0]
    rw [rdEnt C i hlt2, rdEnt (C.take n) i hlt, List.getElem_take, w1 i (by omega)]
    exact Ev.pos (by omega) (Ev.pos (by omega) (Ev.pos (by omega) (Ev.bind s1 (Ev.pos rfl (ih (i + 1) (by omega) (by omega))))))
theorem most_w (x : Int) (g : (Lit.int .u8 x).wf = true) : ∃ n : Nat, n < 20 ∧ wrap64 (Int.tmod x 20) = (n : Int) ∧ wrap64 (-(n : Int)) = -(n : Int) := by
  simp [Lit.wf, IntKind.min, IntKind.max, IntKind.bits, IntKind.signed] at g
  have h1 : Int.tmod x 20 = x % 20 := Int.tmod_eq_emod_of_nonneg (by omega)
  refine ⟨(x % 20).toNat, by omega, ?_, ?_⟩
  · rw [h1, wrap_in] <;> omega
  · rw [wrap_in] <;> omega
theorem examples_ev : Ev (fun k => archivistlaw16_examples.f k) true := Ev.now _
theorem MergeMost : archivistlaw16_MergeMost.PureS := by
  intro x0 x1 x2 x3 g0 g1 g2 t0 t1
  refine Ev.rounds ?_
  obtain ⟨A, a1, a2, a3⟩ := items_ev x0 (fun y hy => gI_of y (g0.2 y hy) (t0.2 y hy)) 8 (by omega)
  obtain ⟨B, b1, b2, b3⟩ := items_ev x1 (fun y hy => gI_of y (g1.2 y hy) (t1.2 y hy)) 8 (by omega)
  obtain ⟨a, c1, c2, c3⟩ := sorted_ev x3 A (by omega) a2
  obtain ⟨b, d1, d2, d3⟩ := sorted_ev x3 B (by omega) b2
  have hal := c1.length_eq
  have hbl := d1.length_eq
  have hs : ∀ l ∈ [a, b], SrtB (ahE x3) l := fun l hl => by
    rcases List.mem_cons.1 hl with rfl | hl
    · exact c2
    · rw [List.mem_singleton] at hl; rw [hl]; exact d2
  have hok : ∀ l ∈ [a, b], ∀ e ∈ l, okE e := fun l hl e he => by
    rcases List.mem_cons.1 hl with rfl | hl
    · exact a2 e (c1.mem_iff.1 he)
    · rw [List.mem_singleton] at hl; subst hl; exact b2 e (d1.mem_iff.1 he)
  have hfit : fitL [a, b] := fitL_of (by simp) (fun l hl => by
    rcases List.mem_cons.1 hl with rfl | hl
    · omega
    · rw [List.mem_singleton] at hl; subst hl; omega) hok
  have e1 := allF_ev x3 100 [a, b] hfit
  obtain ⟨n, hn2, hw, hw2⟩ := most_w x2 g2
  have e2 := allF_ev x3 (n : Int) [a, b] hfit
  have e3 := allF_ev x3 (-(n : Int)) [a, b] hfit
  rw [allE_sorted hs] at e1 e2 e3
  have hCl := canon_len (ah := ahE x3) [a, b].flatten
  have hCm := canon_mem (totE x3) [a, b].flatten
  have hfl : [a, b].flatten.length ≤ 16 := by simp; omega
  have hCok : ∀ q ∈ canon (ahE x3) [a, b].flatten, okE q := fun q hq => by
    obtain ⟨l, hl, h⟩ := List.mem_flatten.1 ((hCm q).1 hq)
    exact hok l hl q h
  generalize canon (ahE x3) [a, b].flatten = C at e1 e2 e3 hCl hCm hCok
  rw [show ((100 : Int).toNat) = 100 from rfl, List.take_of_length_le (by omega)] at e1
  rw [Int.toNat_natCast] at e2
  rw [show (-(n : Int)).toNat = 0 by omega, List.take_zero] at e3
  have fin := most_loop C n hCok (by omega) (C.take n).length 0 rfl (Nat.zero_le _)
  unfold archivistlaw16_MergeMost.f
  rw [hw, hw2]
  refine Ev.bind examples_ev (Ev.pos rfl (Ev.bind a3 (Ev.bind c3 (Ev.bind b3 (Ev.bind d3 (Ev.bind e1 (Ev.bind e2 (Ev.bind e3 (Ev.pos rfl (Ev.pos rfl (Ev.pos rfl (Ev.pos ?_ ?_))))))))))))
  · show ((C.take n).length : Int) = mn (n : Int) (C.length : Int)
    unfold mn
    rw [List.length_take]
    split <;> omega
  · refine Ev.step (fun _ => rfl) ?_
    simp only [archivistlaw16_MergeMost.j0]
    exact Ev.neg (by simp) fin
end Go.Proofs.Ytaehlbbjbeibfaa.Pure
