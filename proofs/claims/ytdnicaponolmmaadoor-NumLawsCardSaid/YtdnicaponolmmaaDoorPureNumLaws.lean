/-
  The law of sums and products in either order, for the seat YtdnicaponolmmaaDoor.
-/
import Derived.Test.YtdnicaponolmmaaDoorX7
import Derived.Test.YtdnicaponolmmaaDoorRwNumLaws
import Derived.Test.YtdnicaponolmmaaDoorY
set_option linter.unusedVariables false
set_option linter.unusedSimpArgs false
namespace Go.Proofs.YtdnicaponolmmaaDoor.Pure
open Go.RowKit Go.Proofs.YtdnicaponolmmaaDoor.X Go.Proofs.YtdnicaponolmmaaDoor.B Go.Proofs.YtdnicaponolmmaaDoorW.PrintWords Go.Proofs.YtdnicaponolmmaaDoorW.PrintLast

theorem NumLaws : archivistlaw02_NumLaws.PureS := by
  intro a b ga gb
  have ha := in64_wf ga
  have hb := in64_wf gb
  refine Ev.rounds ?_
  unfold archivistlaw02_NumLaws.f
  have s1 := add2 ha hb
  have s2 := add2 hb ha
  have p1 := mul2 ha hb
  have p2 := mul2 hb ha
  rw [Int.add_comm b a] at s2
  rw [Int.mul_comm b a] at p2
  refine Ev.bind numExamples_ev (Ev.pos (by first | trivial | rfl) (Ev.bind s1 (Ev.bind s2 (Ev.bind p1 (Ev.bind p2 ?_)))))
  have div : in64 (a * b) → b ≠ 0 → wrap64 (Int.tdiv (a * b) b) = a := fun h h1 => by rw [Int.mul_tdiv_cancel a h1]; exact wrap_64 ha
  have mod : Int.tmod (a * b) b = 0 := Int.mul_tmod_left a b
  have one : ¬ in64 (a * b) → a ≠ 0 ∧ b ≠ 0 ∧ a ≠ 1 ∧ b ≠ 1 := fun h => by
    refine ⟨fun e => ?_, fun e => ?_, fun e => ?_, fun e => ?_⟩ <;> subst e
    · rw [Int.zero_mul] at h; exact h ⟨by decide, by decide⟩
    · rw [Int.mul_zero] at h; exact h ⟨by decide, by decide⟩
    · rw [Int.one_mul] at h; exact h hb
    · rw [Int.mul_one] at h; exact h ha
  have sgn : ¬ in64 (a + b) → ((decide (a < 0)) == (decide (b < 0))) = true := fun h => by
    rw [beq_iff_eq, decide_eq_decide]
    unfold in64 at *
    omega
  have sb : in64 (a + b) → num_Sub.f (a + b) b = some (a, true) := fun h => by
    rw [sub_ev h hb]
    unfold subP
    rw [Int.add_sub_cancel, if_pos ha]
  generalize a * b = p at *
  generalize a + b = s at *
  by_cases h1 : in64 s
  · simp only [if_pos h1]
    refine Ev.pos trivial ?_
    rw [sb h1]
    refine Ev.one (Ev.pos (by first | trivial | rfl) ?_)
    by_cases h2 : in64 p
    · simp only [if_pos h2]
      refine Ev.pos trivial ?_
      by_cases h3 : b = 0
      · exact Ev.pos h3 (Ev.pos (by first | trivial | rfl) (Ev.pos (by first | trivial | rfl) (Ev.pos (by first | trivial | rfl) (Ev.pos (by first | trivial | rfl) (Ev.pos trivial (Ev.now _))))))
      · refine Ev.neg h3 ?_
        by_cases h4 : b = -1
        · exact Ev.pos h4 (Ev.pos (by first | trivial | rfl) (Ev.pos (by first | trivial | rfl) (Ev.pos (by first | trivial | rfl) (Ev.pos (by first | trivial | rfl) (Ev.pos trivial (Ev.now _))))))
        · exact Ev.neg h4 (Ev.pos (div h2 h3) (Ev.pos (by first | trivial | rfl) (Ev.pos (by first | trivial | rfl) (Ev.pos (by first | trivial | rfl) (Ev.pos (by first | trivial | rfl) (Ev.pos trivial (Ev.pos mod (Ev.now _))))))))
    · simp only [if_neg h2]
      obtain ⟨o1, o2, o3, o4⟩ := one h2
      refine Ev.neg (by simp) (Ev.pos (by first | trivial | rfl) (Ev.pos (by first | trivial | rfl) (Ev.pos (by first | trivial | rfl) (Ev.pos (by first | trivial | rfl) (Ev.pos trivial (Ev.neg o1 (Ev.neg o2 (Ev.neg o3 (Ev.ret ?_)))))))))
      simpa using o4
  · simp only [if_neg h1]
    refine Ev.neg (by simp) ?_
    by_cases h2 : in64 p
    · simp only [if_pos h2]
      refine Ev.pos trivial ?_
      by_cases h3 : b = 0
      · exact Ev.pos h3 (Ev.pos (by first | trivial | rfl) (Ev.pos (by first | trivial | rfl) (Ev.pos (by first | trivial | rfl) (Ev.pos (by first | trivial | rfl) (Ev.pos (sgn h1) (Ev.now _))))))
      · refine Ev.neg h3 ?_
        by_cases h4 : b = -1
        · exact Ev.pos h4 (Ev.pos (by first | trivial | rfl) (Ev.pos (by first | trivial | rfl) (Ev.pos (by first | trivial | rfl) (Ev.pos (by first | trivial | rfl) (Ev.pos (sgn h1) (Ev.now _))))))
        · exact Ev.neg h4 (Ev.pos (div h2 h3) (Ev.pos (by first | trivial | rfl) (Ev.pos (by first | trivial | rfl) (Ev.pos (by first | trivial | rfl) (Ev.pos (by first | trivial | rfl) (Ev.pos mod (Ev.pos (sgn h1) (Ev.now _))))))))
    · simp only [if_neg h2]
      obtain ⟨o1, o2, o3, o4⟩ := one h2
      refine Ev.neg (by simp) (Ev.pos (by first | trivial | rfl) (Ev.pos (by first | trivial | rfl) (Ev.pos (by first | trivial | rfl) (Ev.pos (by first | trivial | rfl) (Ev.pos (sgn h1) (Ev.neg o1 (Ev.neg o2 (Ev.neg o3 (Ev.ret ?_)))))))))
      simpa using o4
end Go.Proofs.YtdnicaponolmmaaDoor.Pure
