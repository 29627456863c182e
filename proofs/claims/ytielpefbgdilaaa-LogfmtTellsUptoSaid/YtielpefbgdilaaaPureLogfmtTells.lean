/-
  The law of a line's fields, its set and what labels are put, for the seat Ytielpefbgdilaaa.
-/
import Derived.Test.YtielpefbgdilaaaX20
import Derived.Test.YtielpefbgdilaaaRwLogfmtTells
import Derived.Test.YtielpefbgdilaaaW
set_option linter.unusedVariables false
set_option linter.unusedSimpArgs false
namespace Go.Proofs.Ytielpefbgdilaaa.Pure
open Go.RowKit Go.Proofs.Ytielpefbgdilaaa.X Go.Proofs.Ytielpefbgdilaaa.B Go.Proofs.YtielpefbgdilaaaW.PrintWords Go.Proofs.YtielpefbgdilaaaW.PrintLast

theorem sum_mem {α : Type} (f : α → Nat) : ∀ {l : List α} {y : α}, y ∈ l → f y ≤ (l.map f).sum
  | x :: l, y, h => by
    rw [List.map_cons, List.sum_cons]
    rcases List.mem_cons.1 h with rfl | h
    · omega
    · have := sum_mem f h
      omega
theorem samePairs_self (a : List Lab) (hl : a.length ≤ 1000000) : Ev (fun k => archivistlaw10_samePairs.f k a (a.map toR)) true := by
  have h := samePairs_ev a a hl
  rwa [decide_eq_true rfl] at h
theorem LogfmtTells : archivistlaw10_LogfmtTells.PureU := by
  intro s own x y gx gy hu
  have hy : ∀ p ∈ y, p.f0.f0.size ≤ 1048576 ∧ p.f0.f1.size ≤ 1048576 := fun p hp => by
    have := sum_mem (fun y0 => m41 y0) hp
    unfold m41 m39 at this hu
    omega
  refine Ev.rounds ?_
  unfold archivistlaw10_LogfmtTells.f
  obtain ⟨A, hA, dA, ha⟩ := tags_ev y (fun y hy => (gy.2 y hy).2.2) 20 (by omega)
  have zA : ∀ p ∈ A, p.f0.size ≤ 1048576 ∧ p.f1.size ≤ 1048576 := fun p hp => by
    rcases dA p hp with ⟨q, hq, e1, e2⟩ | h
    · have := hy q hq
      rw [e1, e2]
      exact this
    · omega
  have key : ∀ t : ByteArray, t.size ≤ 1048576 → Ev (fun k => archivistlaw10_LogfmtTells.j0 k t y true) true := by
    intro t ht
    have h1 := (all_ok (by_ t)).1
    have h2 := (ofW_right (by_ t)).2
    refine Ev.step (fun _ => rfl) ?_
    simp only [archivistlaw10_LogfmtTells.j0]
    refine Ev.bind ha (Ev.bind (all_ev t (by omega) (asc_any _)) (Ev.bind (refAll_ev t ht) (Ev.bind (samePairs_self _ (by omega)) ?_)))
    refine Ev.bind (of10_ev t (by omega) (asc_any _)) (Ev.bind (refOf10_ev t ht) (Ev.bind (samePairs_self _ (by omega)) ?_))
    refine Ev.pos (by trivial) (Ev.pos (by trivial) (Ev.pos (by trivial) ?_))
    exact Ev.bind (putF_ev A (by omega) zA) (Ev.bind (refPairs_ev A (by omega)) (Ev.bind (refPut10_ev A (by omega) zA) (Ev.ret (beq_self_eq_true _))))
  refine Ev.bind examples10_ev (Ev.pos (by trivial) ?_)
  cases own with
  | false => exact Ev.neg (by simp) (key s (by omega))
  | true =>
    obtain ⟨L, hL, _, hx⟩ := line_ev x gx.2
    exact Ev.pos (by trivial) (Ev.bind hx (key L (by omega)))
end Go.Proofs.Ytielpefbgdilaaa.Pure
