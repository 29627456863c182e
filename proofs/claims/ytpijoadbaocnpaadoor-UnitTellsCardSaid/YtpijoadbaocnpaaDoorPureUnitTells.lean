/-
  The law of numbers told as durations and sizes, held against the document's answer, for the seat YtpijoadbaocnpaaDoor.
-/
import Derived.Test.YtpijoadbaocnpaaDoorX11
import Derived.Test.YtpijoadbaocnpaaDoorRwUnitTells
import Derived.Test.YtpijoadbaocnpaaDoorS
set_option linter.unusedVariables false
set_option linter.unusedSimpArgs false
namespace Go.Proofs.YtpijoadbaocnpaaDoor.Pure
open Go.RowKit Go.Proofs.YtpijoadbaocnpaaDoor.X Go.Proofs.YtpijoadbaocnpaaDoor.B Go.Proofs.YtpijoadbaocnpaaDoorW.PrintWords Go.Proofs.YtpijoadbaocnpaaDoorW.PrintLast

theorem u8_wf {n : Int} (h : (Lit.int .u8 n).wf = true) : 0 ≤ n ∧ n ≤ 255 := by
  simp only [Lit.wf, IntKind.min, IntKind.max, IntKind.signed, IntKind.bits, Bool.and_eq_true, decide_eq_true_eq] at h
  simp at h
  omega
theorem UnitTells : archivistlaw03_UnitTells.PureS := by
  intro n c gn gc
  have hn := in64_wf gn
  have hc := u8_wf gc
  refine Ev.rounds ?_
  unfold archivistlaw03_UnitTells.f
  have hs := shr_in (c := Int.tmod c 64) hn
  generalize shr .i64 n (Int.tmod c 64) = m at *
  refine Ev.bind unitExamples_ev (Ev.pos (by first | trivial | rfl) (Ev.pos (Int.tmod_nonneg _ hc.1) (Ev.bind (span_ev hs) (Ev.bind (refSpan_ev hs) (Ev.bind (sizeU_ev hs) (Ev.bind (refSizeOf_ev hs) (Ev.pos rfl (Ev.pos (beq_self_eq_true _) (Ev.pos rfl (Ev.ret (beq_self_eq_true _)))))))))))
end Go.Proofs.YtpijoadbaocnpaaDoor.Pure
