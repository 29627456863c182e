/-
  The law of the least of some, for the seat YtdnicaponolmmaaDoor.
-/
import Derived.Test.YtdnicaponolmmaaDoorX8
import Derived.Test.YtdnicaponolmmaaDoorRwNumLeast
import Derived.Test.YtdnicaponolmmaaDoorY
set_option linter.unusedVariables false
set_option linter.unusedSimpArgs false
namespace Go.Proofs.YtdnicaponolmmaaDoor.Pure
open Go.RowKit Go.Proofs.YtdnicaponolmmaaDoor.X Go.Proofs.YtdnicaponolmmaaDoor.B Go.Proofs.YtdnicaponolmmaaDoorW.PrintWords Go.Proofs.YtdnicaponolmmaaDoorW.PrintLast

theorem NumLeast : archivistlaw02_NumLeast.PureS := by
  intro a l ga gl tl
  have hs : l.length < 4611686018427387904 := by have := tl.1; omega
  refine Ev.rounds ?_
  unfold archivistlaw02_NumLeast.f
  refine Ev.bind numExamples_ev (Ev.pos (by first | trivial | rfl) (Ev.bind (least_ev l hs a) ?_))
  obtain ⟨h1, h2, h3⟩ := least_le l a
  generalize leastP a l = n at *
  have loop : ∀ d i (b : Bool), l.length - i = d → i ≤ l.length → (b = true ∨ ∃ j, ∃ h : j < l.length, i ≤ j ∧ l[j] = n) → Ev (fun k => archivistlaw02_NumLeast.l0 k a l true n b (i : Int)) true := by
    intro d
    induction d with
    | zero =>
      intro i b hd hi hb
      refine Ev.step (fun _ => rfl) ?_
      simp only [archivistlaw02_NumLeast.l0]
      refine Ev.neg (by omega) (Ev.pos (by first | trivial | rfl) ?_)
      have hb2 : b = true := by
        rcases hb with hb | ⟨j, hj, hij, _⟩
        · exact hb
        · omega
      exact Ev.pos hb2 (Ev.ret (decide_eq_true h1))
    | succ d ih =>
      intro i b hd hi hb
      have h : i < l.length := by omega
      refine Ev.step (fun _ => rfl) ?_
      simp only [archivistlaw02_NumLeast.l0]
      refine Ev.pos (by omega) (Ev.pos (by omega) ?_)
      rw [rd_at l i h, w1 i (by omega)]
      refine Ev.neg (by have := h2 _ (List.getElem_mem h); omega) ?_
      cases b with
      | true => exact Ev.pos (by first | trivial | rfl) (ih (i + 1) true (by omega) (by omega) (.inl rfl))
      | false =>
        refine Ev.neg (by simp) (ih (i + 1) _ (by omega) (by omega) ?_)
        rcases hb with hb | ⟨j, hj, hij, e⟩
        · cases hb
        · rcases Nat.lt_or_ge i j with hlt | hge
          · exact .inr ⟨j, hj, by omega, e⟩
          · obtain rfl : i = j := by omega
            exact .inl (beq_iff_eq.2 e)
  refine loop l.length 0 _ (by omega) (by omega) ?_
  rcases h3 with h3 | h3
  · exact .inl (beq_iff_eq.2 h3)
  · obtain ⟨j, hj, e⟩ := List.getElem_of_mem h3
    exact .inr ⟨j, hj, by omega, e⟩
end Go.Proofs.YtdnicaponolmmaaDoor.Pure
