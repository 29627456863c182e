/-
  The law of how sets of labels stand, for the seat Ytbkhgldinmabiaa.
-/
import Derived.Test.YtbkhgldinmabiaaX29
import Derived.Test.YtbkhgldinmabiaaRwLabelOrder
import Derived.Test.YtbkhgldinmabiaaT
import Derived.Test.YtbkhgldinmabiaaM
set_option linter.unusedVariables false
set_option linter.unusedSimpArgs false
namespace Go.Proofs.Ytbkhgldinmabiaa.Pure
open Go.RowKit Go.Proofs.Ytbkhgldinmabiaa.X Go.Proofs.Ytbkhgldinmabiaa.B Go.Proofs.YtbkhgldinmabiaaW.PrintWords Go.Proofs.YtbkhgldinmabiaaW.PrintLast

theorem LabelOrder : archivistlaw06_LabelOrder.PureS := by
  intro x y z hgx hgy hgz _ _ _
  refine Ev.rounds ?_
  unfold archivistlaw06_LabelOrder.f
  obtain ⟨A, hA, _, ha⟩ := tags_ev x (fun y hy => (hgx.2 y hy).2.2) 4 (by omega)
  obtain ⟨B, hB, _, hb⟩ := tags_ev y (fun y hy => (hgy.2 y hy).2.2) 4 (by omega)
  obtain ⟨C, hC, _, hc⟩ := tags_ev z (fun y hy => (hgz.2 y hy).2.2) 4 (by omega)
  have la := of_len A
  have lb := of_len B
  have lc := of_len C
  refine Ev.bind labelExamples_ev (Ev.pos (by trivial) (Ev.bind ha (Ev.bind (of_ev A (by omega)) (Ev.bind hb (Ev.bind (of_ev B (by omega)) (Ev.bind hc (Ev.bind (of_ev C (by omega)) ?_)))))))
  generalize ofP [] A = a at la ⊢
  generalize ofP [] B = b at lb ⊢
  generalize ofP [] C = c at lc ⊢
  have oab := order_ev a b (by omega)
  have obc := order_ev b c (by omega)
  have oac := order_ev a c (by omega)
  have oba := order_ev b a (by omega)
  have sab := same_ev a b (by omega)
  have flip := ordL_flip a b
  have o1 := ordL_one b a
  have hw : ordL a b = wrap64 (-(ordL b a)) := by rw [wrap_in] <;> omega
  have hs : ((ordL a b == 0) == decide (a = b)) = true := by
    rw [beq_iff_eq, Bool.eq_iff_iff, beq_iff_eq, decide_eq_true_eq]
    exact ordL_eq a b
  have last : Ev (fun k => (label_Order.f k [] a).bind fun t => some (t == -(mn (a.length : Int) 1))) true := by
    refine Ev.bind (order_ev [] a (by simp)) (Ev.ret ?_)
    cases a with
    | nil => rfl
    | cons p a =>
      have : mn ((p :: a).length : Int) 1 = 1 := by
        unfold mn
        rw [List.length_cons]
        split <;> omega
      rw [this]
      rfl
  refine Ev.bind oab ?_
  by_cases h1 : ordL a b ≤ 0
  · refine Ev.pos h1 (Ev.bind obc ?_)
    by_cases h2 : ordL b c ≤ 0
    · have h3 := ordL_le h1 h2
      exact Ev.pos h2 (Ev.bind oac (Ev.bind oba (Ev.pos hw (Ev.bind sab (Ev.pos hs (Ev.neg (by omega) last))))))
    · exact Ev.neg h2 (Ev.bind oba (Ev.pos hw (Ev.bind sab (Ev.pos hs last))))
  · exact Ev.neg h1 (Ev.bind oba (Ev.pos hw (Ev.bind sab (Ev.pos hs last))))
end Go.Proofs.Ytbkhgldinmabiaa.Pure
