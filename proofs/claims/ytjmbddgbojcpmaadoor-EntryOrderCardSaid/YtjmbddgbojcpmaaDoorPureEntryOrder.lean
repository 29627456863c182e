/-
  The law of the order of entries, for the seat YtjmbddgbojcpmaaDoor.
-/
import Derived.Test.YtjmbddgbojcpmaaDoorX17
import Derived.Test.YtjmbddgbojcpmaaDoorRwEntryOrder
import Derived.Test.YtjmbddgbojcpmaaDoorJ
set_option linter.unusedVariables false
set_option linter.unusedSimpArgs false
namespace Go.Proofs.YtjmbddgbojcpmaaDoor.Pure
open Go.RowKit Go.Proofs.YtjmbddgbojcpmaaDoor.X Go.Proofs.YtjmbddgbojcpmaaDoor.B Go.Proofs.YtjmbddgbojcpmaaDoorW.PrintWords Go.Proofs.YtjmbddgbojcpmaaDoorW.PrintLast

theorem gI_of (x : Itm) (g : g29 x) (t : T29 140737488351232 x) : gI x := by
  obtain ⟨⟨g0, _, _⟩, _, g2, g3, g4⟩ := g
  obtain ⟨⟨_, t1, _⟩, _⟩ := t
  refine ⟨in64_wf g0, by have := t1.1; omega, ?_, fun y hy => ?_, ?_⟩
  · simp [Lit.wf, IntKind.min, IntKind.max, IntKind.bits, IntKind.signed] at g2
    exact g2
  · have h := (g3.2 y hy).2.2
    simp [Lit.wf, IntKind.min, IntKind.max, IntKind.bits, IntKind.signed] at h
    omega
  · simp [Lit.wf, IntKind.min, IntKind.max, IntKind.bits, IntKind.signed] at g4
    omega
theorem eo_j0 (x y : Ent) (hx : okE x) (hy : okE y) : Ev (fun k => archivistlaw13_EntryOrder.j0 k true (ordE x y) false x.f0 x.f1 x.f2 y.f0 y.f1 y.f2) true := by
  have hfl := ordE_stands.flip x y
  have hon := ordE_stands.one y x
  refine Ev.step (fun _ => rfl) ?_
  simp only [archivistlaw13_EntryOrder.j0]
  refine Ev.pos (by first | trivial | rfl) (Ev.bind (orderE_ev y x hy) (Ev.pos ?_ (Ev.bind (sameE_ev x y hx) (Ev.pos (beq_self_eq_true _) (Ev.neg (by simp) (Ev.bind (aheadE_ev x y true hx hy) (Ev.pos ?_ (Ev.bind (aheadE_ev x y false hx hy) (Ev.pos ?_ ?_)))))))))
  · rw [hfl, wrap_in] <;> omega
  · unfold ahE
    simp
  · unfold ahE
    rw [if_neg (by simp), beq_iff_eq, decide_eq_decide]
    omega
  · by_cases h : x.f0 = y.f0
    · exact Ev.pos h (Ev.now _)
    · refine Ev.neg h (Ev.ret ?_)
      have hc : cI x.f0 y.f0 ≠ 0 := fun e => h ((cI_stands.eq _ _).1 e)
      rw [beq_iff_eq, decide_eq_decide]
      unfold ordE
      rw [if_neg hc]
      unfold cI at hc ⊢
      (repeat' split) <;> omega
theorem EntryOrder : archivistlaw13_EntryOrder.PureS := by
  intro x0 x1 x2 g0 g1 g2 t0 t1 t2
  refine Ev.rounds ?_
  obtain ⟨a, _, oka, _, ha⟩ := item_ev x0 (gI_of x0 g0 t0)
  obtain ⟨b, _, okb, _, hb⟩ := item_ev x1 (gI_of x1 g1 t1)
  obtain ⟨c, _, okc, _, hc⟩ := item_ev x2 (gI_of x2 g2 t2)
  unfold archivistlaw13_EntryOrder.f
  refine Ev.bind examples13_ev (Ev.pos (by trivial) (Ev.bind ha (Ev.bind hb (Ev.bind hc (Ev.bind (orderE_ev a b oka) ?_)))))
  have fin := eo_j0 a b oka okb
  by_cases h1 : ordE a b ≤ 0
  · refine Ev.pos h1 (Ev.bind (orderE_ev b c okb) ?_)
    by_cases h2 : ordE b c ≤ 0
    · refine Ev.pos h2 (Ev.bind (orderE_ev a c oka) ?_)
      have h3 := ordE_stands.le h1 h2
      rw [decide_eq_false (show ¬ ordE a c > 0 by omega)]
      exact fin
    · exact Ev.neg h2 fin
  · exact Ev.neg h1 fin
end Go.Proofs.YtjmbddgbojcpmaaDoor.Pure
