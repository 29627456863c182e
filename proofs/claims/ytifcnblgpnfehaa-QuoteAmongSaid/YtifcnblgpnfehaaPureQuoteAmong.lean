/-
  The law of which one of some a text is, for the seat Ytifcnblgpnfehaa.
-/
import Derived.Test.YtifcnblgpnfehaaX14
import Derived.Test.YtifcnblgpnfehaaRwQuoteAmong
import Derived.Test.YtifcnblgpnfehaaJ
set_option linter.unusedVariables false
set_option linter.unusedSimpArgs false
namespace Go.Proofs.Ytifcnblgpnfehaa.Pure
open Go.RowKit Go.Proofs.Ytifcnblgpnfehaa.X Go.Proofs.Ytifcnblgpnfehaa.B Go.Proofs.YtifcnblgpnfehaaW.PrintWords Go.Proofs.YtifcnblgpnfehaaW.PrintLast

theorem am_loop (l : List ByteArray) (s : ByteArray) (hl : l.length ≤ 10) : ∀ (d i : Nat), l.length - i = d → i ≤ l.length →
    Ev (fun k => archivistlaw01_QuoteAmong.l0 k l s true (amI s l 0) (i : Int)) true
  | 0, i, hd, hi => by
    refine Ev.step (fun _ => rfl) ?_
    simp only [archivistlaw01_QuoteAmong.l0]
    refine Ev.neg (by omega) (Ev.pos (by trivial) ?_)
    have hm : ∀ n : Nat, n < l.length → (n : Int) < mx (l.length : Int) 1 := fun n hn => by unfold mx; split <;> omega
    rcases amI_spec s l 0 with ⟨h1, h2⟩ | ⟨j, h, h1, h2, h3⟩
    · rw [h1]
      exact Ev.pos (by omega) (Ev.pos (by unfold mx; split <;> omega) (Ev.pos (by omega) (Ev.now _)))
    · rw [h1, Nat.zero_add, rdS l j h]
      refine Ev.pos (by omega) (Ev.pos (hm j h) (Ev.neg (by omega) (Ev.pos (by omega) (Ev.pos (by omega) (Ev.ret ?_)))))
      rw [h2]
      exact beq_self_eq_true _
  | d + 1, i, hd, hi => by
    have hlt : i < l.length := by omega
    have ih := am_loop l s hl d (i + 1) (by omega) (by omega)
    refine Ev.step (fun _ => rfl) ?_
    simp only [archivistlaw01_QuoteAmong.l0]
    rw [w1 i (by omega), rdS l i hlt]
    refine Ev.pos (by omega) (Ev.pos (by omega) ?_)
    by_cases he : l[i].toList = s.toList
    · refine Ev.pos he ?_
      rcases amI_spec s l 0 with ⟨h1, h2⟩ | ⟨j, h, h1, h2, h3⟩
      · exact absurd he.symm (h2 i hlt)
      · have hji : j ≤ i := by
          by_cases h4 : i < j
          · exact absurd he.symm (h3 i h4)
          · omega
        refine Ev.neg ?_ (Ev.neg ?_ ih)
        · rw [h1]; omega
        · rw [h1]; omega
    · exact Ev.neg he ih
theorem am_j1 (l : List ByteArray) (s : ByteArray) (hl : l.length ≤ 10) : Ev (fun k => archivistlaw01_QuoteAmong.j1 k l s true) true := by
  refine Ev.step (fun _ => rfl) ?_
  simp only [archivistlaw01_QuoteAmong.j1]
  exact Ev.bind (among_ev l s (by omega)) (am_loop l s hl l.length 0 rfl (Nat.zero_le _))
theorem am_j0 (l : List ByteArray) (a1 : Int) (s : ByteArray) (b : Bool) (hl : l.length ≤ 10) (hb : b = true → 0 < l.length) : Ev (fun k => archivistlaw01_QuoteAmong.j0 k l a1 s true b) true := by
  refine Ev.step (fun _ => rfl) ?_
  simp only [archivistlaw01_QuoteAmong.j0]
  cases b with
  | false => exact Ev.neg (by decide) (am_j1 l s hl)
  | true =>
    have h := hb rfl
    exact Ev.pos (by trivial) (Ev.neg (by omega) (Ev.pos (Int.emod_nonneg _ (by omega)) (Ev.pos (Int.emod_lt_of_pos _ (by omega)) (am_j1 l _ hl))))
theorem QuoteAmong : archivistlaw01_QuoteAmong.PureS := by
  intro l a1 a2 hg _ _ _
  refine Ev.rounds ?_
  unfold archivistlaw01_QuoteAmong.f
  refine Ev.bind quoteExamples_ev (Ev.pos (by trivial) ?_)
  obtain ⟨n, hn, h1, h2⟩ : ∃ n : Nat, mn (l.length : Int) 10 = (n : Int) ∧ n ≤ 10 ∧ n ≤ l.length := by
    unfold mn
    split
    · exact ⟨10, rfl, by omega, by omega⟩
    · exact ⟨l.length, rfl, by omega, by omega⟩
  rw [hn, Int.toNat_natCast]
  have hl : (l.take n).length = n := by rw [List.length_take]; omega
  refine Ev.pos (by omega) (Ev.pos (by omega) ?_)
  by_cases h : ((l.take n).length : Int) > 0
  · exact Ev.pos h (am_j0 _ a1 a2 _ (by omega) (fun _ => by omega))
  · exact Ev.neg h (am_j0 _ a1 a2 _ (by omega) (fun h => by cases h))
end Go.Proofs.Ytifcnblgpnfehaa.Pure
