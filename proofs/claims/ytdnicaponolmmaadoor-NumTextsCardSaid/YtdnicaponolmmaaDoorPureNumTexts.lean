/-
  The law of numbers in digits, held against the document's answer, for the seat YtdnicaponolmmaaDoor.
-/
import Derived.Test.YtdnicaponolmmaaDoorX5
import Derived.Test.YtdnicaponolmmaaDoorRwNumTexts
import Derived.Test.YtdnicaponolmmaaDoorY
set_option linter.unusedVariables false
set_option linter.unusedSimpArgs false
namespace Go.Proofs.YtdnicaponolmmaaDoor.Pure
open Go.RowKit Go.Proofs.YtdnicaponolmmaaDoor.X Go.Proofs.YtdnicaponolmmaaDoor.B Go.Proofs.YtdnicaponolmmaaDoorW.PrintWords Go.Proofs.YtdnicaponolmmaaDoorW.PrintLast
open Lib (itoa)

theorem NumTexts : archivistlaw02_NumTexts.PureS := by
  intro n s own gn go hs
  have hn := in64_wf gn
  refine Ev.rounds ?_
  unfold archivistlaw02_NumTexts.f
  refine Ev.bind numExamples_ev (Ev.pos (by first | trivial | rfl) ?_)
  have hl := itoa_len hn
  have hz : (⟨(itoa n).toArray⟩ : ByteArray).size = (itoa n).length := by rw [← by_length, by_mk]
  have main : ∀ t : ByteArray, t.size ≤ 281474976710656 → Ev (fun k => archivistlaw02_NumTexts.j0 k n t true) true := by
    intro t ht
    refine Ev.step (fun _ => rfl) ?_
    simp only [archivistlaw02_NumTexts.j0]
    rw [parse_ev t ht, text_ev hn]
    refine Ev.one (Ev.bind (refParse_ev t) (Ev.pos (by first | trivial | rfl) (Ev.one (Ev.bind (refText_ev hn) (Ev.pos (by first | trivial | rfl) (Ev.pos (by first | trivial | rfl) (Ev.ret ?_)))))))
    exact beq_self_eq_true _
  by_cases h0 : Int.tmod own 4 = 0
  · exact Ev.pos h0 (Ev.bind (refText_ev hn) (main _ (by omega)))
  refine Ev.neg h0 ?_
  by_cases h1 : Int.tmod own 4 = 1
  · exact Ev.pos h1 (Ev.bind (refText_ev hn) (Ev.pos (by omega) (main _ (by rw [ByteArray.size_append]; omega))))
  refine Ev.neg h1 ?_
  by_cases h2 : Int.tmod own 4 = 2
  · exact Ev.pos h2 (Ev.bind (refText_ev hn) (Ev.pos (by omega) (main _ (by rw [ByteArray.size_append, hz]; show 1 + _ ≤ _; omega))))
  exact Ev.neg h2 (main _ (by omega))
end Go.Proofs.YtdnicaponolmmaaDoor.Pure
