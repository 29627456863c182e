/-
  The law of words, held against the document's answer, for the seat Ytifcnblgpnfehaa.
-/
import Derived.Test.YtifcnblgpnfehaaX22
import Derived.Test.YtifcnblgpnfehaaG
set_option linter.unusedVariables false
set_option linter.unusedSimpArgs false
namespace Go.Proofs.Ytifcnblgpnfehaa.Pure
open Go.RowKit Go.Proofs.Ytifcnblgpnfehaa.X Go.Proofs.Ytifcnblgpnfehaa.B Go.Proofs.YtifcnblgpnfehaaW.PrintWords Go.Proofs.YtifcnblgpnfehaaW.PrintLast

theorem words_ops : ∀ (d i : Nat), opsB.length - i = d → i ≤ opsB.length → Ev (fun k => archivistlaw07_LexWords.l1 k true opsB opsB (i : Int)) true
  | 0, i, hd, hi => by
    have hi2 : i = 15 := by
      have : opsB.length = 15 := rfl
      omega
    subst hi2
    refine Ev.step (fun _ => rfl) ?_
    simp only [archivistlaw07_LexWords.l1]
    refine Ev.neg (by decide) (Ev.step (fun _ => rfl) ?_)
    simp only [archivistlaw07_LexWords.j4]
    exact Ev.neg (by decide) (Ev.pos (by trivial) (Ev.ret (by decide)))
  | d + 1, i, hd, hi => by
    have hn : opsB.length = 15 := rfl
    have ih := words_ops d (i + 1) (by omega) (by omega)
    have e1 : wrap64 ((i : Int) + 1) = ((i + 1 : Nat) : Int) := by rw [wrap_in] <;> omega
    refine Ev.step (fun _ => rfl) ?_
    simp only [archivistlaw07_LexWords.l1]
    refine Ev.pos (by omega) (Ev.step (fun _ => rfl) ?_)
    simp only [archivistlaw07_LexWords.j4]
    rw [e1]
    exact Ev.pos (by simp; omega) (Ev.pos (by omega) (Ev.pos (by omega) (Ev.pos (by omega) (Ev.pos (by first | trivial | rfl) ih))))
theorem words_loop (l : List S33) (hl : l.length ≤ 1024) : ∀ (d i : Nat), l.length - i = d → i ≤ l.length →
    Ev (fun k => archivistlaw07_LexWords.l0 k true l (l.map tok) (i : Int)) true
  | 0, i, hd, hi => by
    refine Ev.step (fun _ => rfl) ?_
    simp only [archivistlaw07_LexWords.l0]
    rw [lexOps_f, refOps_f]
    exact Ev.neg (by omega) (Ev.one (Ev.one (words_ops 15 0 rfl (by omega))))
  | d + 1, i, hd, hi => by
    have hlt : i < l.length := by omega
    have ih := words_loop l hl d (i + 1) (by omega) (by omega)
    have e1 : wrap64 ((i : Int) + 1) = ((i + 1 : Nat) : Int) := by rw [wrap_in] <;> omega
    have hr : rd_T33 l (i : Int) = l[i] := by simp [rd_T33, hlt]
    have hr2 : rd_T34 (l.map tok) (i : Int) = tok l[i] := by simp [rd_T34, hlt]
    refine Ev.step (fun _ => rfl) ?_
    simp only [archivistlaw07_LexWords.l0]
    rw [e1, hr, hr2, List.length_map]
    exact Ev.pos (by omega) (Ev.pos (by omega) (Ev.pos (by omega) (Ev.pos rfl (Ev.pos rfl (Ev.pos rfl ih)))))
theorem words_law (s : ByteArray) : Ev (fun k => archivistlaw07_LexWords.j0 k s true) true := by
  obtain ⟨l, a, e, h, hg⟩ := all_good s
  have hl : l.length ≤ 1024 := by
    rcases hg with ⟨_, _, hg, h1⟩ | ⟨_, hg, _⟩
    · exact Nat.le_trans (good_len hg) h1
    · simp [hg]
  have h2 := refAll_ev s l a e h
  refine Ev.step (fun _ => rfl) ?_
  simp only [archivistlaw07_LexWords.j0]
  refine Ev.bind h (Ev.bind h2 (Ev.pos (by rw [List.length_map]) (Ev.pos rfl (Ev.step (fun _ => rfl) ?_))))
  simp only [archivistlaw07_LexWords.j1]
  exact Ev.neg (by simp) (words_loop l hl l.length 0 rfl (by omega))
theorem LexWords : archivistlaw07_LexWords.Pure := by
  intro a0 a1 l2 _ _ h2 hw
  refine Ev.rounds ?_
  unfold archivistlaw07_LexWords.f
  refine Ev.bind lexExamples_ev (Ev.pos (by trivial) ?_)
  by_cases h : a1 = true
  · obtain ⟨t, _, ht⟩ := words_ev l2 (by omega) hw
    exact Ev.pos h (Ev.bind ht (words_law t))
  · exact Ev.neg h (words_law a0)
end Go.Proofs.Ytifcnblgpnfehaa.Pure
