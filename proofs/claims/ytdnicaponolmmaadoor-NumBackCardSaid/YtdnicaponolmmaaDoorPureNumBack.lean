/-
  The law of numbers that are told and read, for the seat YtdnicaponolmmaaDoor.
-/
import Derived.Test.YtdnicaponolmmaaDoorX6
import Derived.Test.YtdnicaponolmmaaDoorRwNumBack
import Derived.Test.YtdnicaponolmmaaDoorY
set_option linter.unusedVariables false
set_option linter.unusedSimpArgs false
namespace Go.Proofs.YtdnicaponolmmaaDoor.Pure
open Go.RowKit Go.Proofs.YtdnicaponolmmaaDoor.X Go.Proofs.YtdnicaponolmmaaDoor.B Go.Proofs.YtdnicaponolmmaaDoorW.PrintWords Go.Proofs.YtdnicaponolmmaaDoorW.PrintLast
open Lib (itoa)

theorem NumBack : archivistlaw02_NumBack.PureS := by
  intro a b same ga gb
  have ha := in64_wf ga
  have hb := in64_wf gb
  refine Ev.rounds ?_
  unfold archivistlaw02_NumBack.f
  refine Ev.bind numExamples_ev (Ev.pos (by first | trivial | rfl) ?_)
  have main : ∀ b, in64 b → Ev (fun k => archivistlaw02_NumBack.j0 k a b true) true := by
    intro b hb
    refine Ev.step (fun _ => rfl) ?_
    simp only [archivistlaw02_NumBack.j0]
    have hl := itoa_len ha
    have hz : (⟨(itoa a).toArray⟩ : ByteArray).size = (itoa a).length := by rw [← by_length, by_mk]
    rw [text_ev ha, text_ev hb]
    refine Ev.one ?_
    rw [parse_ev _ (by omega), by_mk, parseN_itoa ha]
    refine Ev.one (Ev.one (Ev.pos (by omega) ?_))
    rw [parse_ev _ (by rw [ByteArray.size_append, hz]; show 1 + _ ≤ _; omega), by_append, by_mk, by_mk]
    have n1 : parseN ([43] ++ itoa a) = (0, false) := parseN_none fun v _ h => by
      have : (43 : UInt8) ∈ itoa v := by rw [h]; exact List.mem_append.2 (.inl (List.mem_singleton.2 rfl))
      rcases itoa_byte v 43 this with h | h
      · exact absurd h.1 (by decide)
      · exact absurd h (by decide)
    rw [n1]
    refine Ev.one (Ev.one (Ev.pos (by omega) ?_))
    rw [parse_ev _ (by rw [ByteArray.size_append, hz]; show _ + 1 ≤ _; omega), by_append, by_mk, by_mk]
    have n2 : parseN (itoa a ++ [32]) = (0, false) := parseN_none fun v _ h => by
      have : (32 : UInt8) ∈ itoa v := by rw [h]; exact List.mem_append.2 (.inr (List.mem_singleton.2 rfl))
      rcases itoa_byte v 32 this with h | h
      · exact absurd h.1 (by decide)
      · exact absurd h (by decide)
    rw [n2]
    refine Ev.one (Ev.pos (by first | trivial | rfl) (Ev.pos (by first | trivial | rfl) (Ev.pos (by first | trivial | rfl) (Ev.neg (by simp) (Ev.neg (by simp) (Ev.one (Ev.one (Ev.ret ?_))))))))
    rw [toList_by, toList_by, by_mk, by_mk, beq_iff_eq, Bool.eq_iff_iff, beq_iff_eq, beq_iff_eq]
    exact ⟨itoa_inj ha hb, fun h => by rw [h]⟩
  cases same with
  | true => exact Ev.pos (by first | trivial | rfl) (main a ha)
  | false => exact Ev.neg (by simp) (main b hb)
end Go.Proofs.YtdnicaponolmmaaDoor.Pure
