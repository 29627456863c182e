/-
  The law of the places of words, for the seat Ytifcnblgpnfehaa.
-/
import Derived.Test.YtifcnblgpnfehaaX24
import Derived.Test.YtifcnblgpnfehaaV
set_option linter.unusedVariables false
set_option linter.unusedSimpArgs false
namespace Go.Proofs.Ytifcnblgpnfehaa.Pure
open Go.RowKit Go.Proofs.Ytifcnblgpnfehaa.X Go.Proofs.Ytifcnblgpnfehaa.B Go.Proofs.YtifcnblgpnfehaaW.PrintWords Go.Proofs.YtifcnblgpnfehaaW.PrintLast

theorem places_loop (s : ByteArray) (l : List S33) (a : Nat) (e : Int) (hl : l.length ≤ 1024)
    (h : (e = 0 ∧ a = s.size ∧ WordsOk s.size l ∧ s.size ≤ 1024) ∨ (e ≠ 0 ∧ l = [] ∧ a < s.size ∧ a ≤ 1024)) : ∀ (d i : Nat), l.length - i = d → i ≤ l.length →
    Ev (fun k => archivistlaw07_LexPlaces.l0 k s true l (a : Int) e (i : Int)) true
  | d, i, hd, hi => by
    refine Ev.step (fun _ => rfl) ?_
    simp only [archivistlaw07_LexPlaces.l0]
    by_cases hlt : i < l.length
    · match d, hd with
      | 0, hd => omega
      | d + 1, hd =>
        have hg : WordsOk s.size l := by
          rcases h with h | h
          · exact h.2.2.1
          · rw [h.2.1] at hlt; simp at hlt
        have ih := places_loop s l a e hl h d (i + 1) (by omega) (by omega)
        have e1 : wrap64 ((i : Int) + 1) = ((i + 1 : Nat) : Int) := by rw [wrap_in] <;> omega
        rw [e1]
        have hr : rd_T33 l (i : Int) = l[i] := by simp [rd_T33, hlt]
        rw [hr]
        obtain ⟨g1, g2, g3, g4⟩ := hg.1 i hlt
        refine Ev.pos (by omega) (Ev.pos (by omega) (Ev.neg (by omega) (Ev.neg (by omega) ?_)))
        by_cases h0 : 0 < i
        · have e2 : wrap64 ((i : Int) - 1) = ((i - 1 : Nat) : Int) := by rw [wrap_in] <;> omega
          have hr2 : rd_T33 l ((i - 1 : Nat) : Int) = l[i - 1] := by simp [rd_T33, show i - 1 < l.length by omega]
          have g5 := hg.2 (i - 1) (by omega)
          simp only [show i - 1 + 1 = i by omega] at g5
          rw [e2, hr2]
          exact Ev.pos (by omega) (Ev.pos (by omega) (Ev.pos (by omega) (Ev.neg (by omega) (Ev.neg (by omega) (Ev.neg (by omega) ih)))))
        · exact Ev.neg (by omega) (Ev.neg (by omega) (Ev.neg (by omega) ih))
    · refine Ev.neg (by omega) (Ev.pos (by trivial) (Ev.pos (by omega) ?_))
      rcases h with ⟨h1, h2, h3, h4⟩ | ⟨h1, h2, h3, h4⟩
      · exact Ev.pos (by omega) (Ev.pos (by simp [h1, h2]) (Ev.pos h1 (Ev.now _)))
      · refine Ev.pos (by omega) (Ev.pos ?_ (Ev.neg h1 (Ev.ret (by simp [h2]))))
        have : ¬ (a : Int) = s.size := by omega
        simp only [beq_iff_eq]
        rw [Bool.eq_iff_iff]
        simp [h1, this]
theorem places_ev (s : ByteArray) : Ev (fun k => archivistlaw07_LexPlaces.j0 k s true) true := by
  obtain ⟨l, a, e, h, hg⟩ := all_good s
  refine Ev.step (fun _ => rfl) ?_
  simp only [archivistlaw07_LexPlaces.j0]
  refine Ev.bind h ?_
  have hl : l.length ≤ 1024 := by
    rcases hg with ⟨_, _, hg, h1⟩ | ⟨_, hg, _⟩
    · exact Nat.le_trans (good_len hg) h1
    · simp [hg]
  exact places_loop s l a e hl hg l.length 0 rfl (by omega)
theorem LexPlaces : archivistlaw07_LexPlaces.Pure := by
  intro a0 a1 l2 _ _ h2 hw
  refine Ev.rounds ?_
  unfold archivistlaw07_LexPlaces.f
  refine Ev.bind lexExamples_ev (Ev.pos (by trivial) ?_)
  by_cases h : a1 = true
  · obtain ⟨t, _, ht⟩ := words_ev l2 (by omega) hw
    exact Ev.pos h (Ev.bind ht (places_ev t))
  · exact Ev.neg h (places_ev a0)
end Go.Proofs.Ytifcnblgpnfehaa.Pure
