/-
  The law of durations and sizes that are told and read, for the seat YtpijoadbaocnpaaDoor.
-/
import Derived.Test.YtpijoadbaocnpaaDoorX11
import Derived.Test.YtpijoadbaocnpaaDoorRwUnitBack
import Derived.Test.YtpijoadbaocnpaaDoorS
set_option linter.unusedVariables false
set_option linter.unusedSimpArgs false
namespace Go.Proofs.YtpijoadbaocnpaaDoor.Pure
open Go.RowKit Go.Proofs.YtpijoadbaocnpaaDoor.X Go.Proofs.YtpijoadbaocnpaaDoor.B Go.Proofs.YtpijoadbaocnpaaDoorW.PrintWords Go.Proofs.YtpijoadbaocnpaaDoorW.PrintLast
open Lib (itoa)

theorem u8_wf {n : Int} (h : (Lit.int .u8 n).wf = true) : 0 ≤ n ∧ n ≤ 255 := by
  simp only [Lit.wf, IntKind.min, IntKind.max, IntKind.signed, IntKind.bits, Bool.and_eq_true, decide_eq_true_eq] at h
  simp at h
  omega
theorem span_len : ∀ d i n, dU.length - i = d → i ≤ dU.length → 0 ≤ n → in64 n → (spanT n ((dU.drop i).map gU)).length ≤ 30 * d := by
  intro d
  induction d with
  | zero =>
    intro i n hd hi h0 hn
    rw [List.drop_of_length_le (by omega)]
    simp [spanT]
  | succ d ih =>
    intro i n hd hi h0 hn
    have h : i < dU.length := by omega
    obtain ⟨a1, a2, a3, _, _⟩ := dU_at i h
    obtain ⟨q1, q2, q3, q4, q5, q6, q7, q8, q9, q10, q11⟩ := quo_in h0 hn a1
    rw [List.drop_eq_getElem_cons h]
    simp only [List.map_cons, gU, spanT]
    split
    · have h1 := ih (i + 1) (n % dU[i].f1) (by omega) (by omega) q7 q10
      have h2 := itoa_len q6
      have h3 := by_length dU[i].f0
      simp only [List.length_append]
      omega
    · have h1 := ih (i + 1) n (by omega) (by omega) h0 hn
      omega
theorem span_small {n : Int} (hn : in64 n) : (spanR n).1.size ≤ 281474976710656 := by
  unfold spanR
  split
  · exact (by decide)
  · split
    · exact (by decide)
    · have h := span_len 6 0 n rfl (by omega) (by omega) hn
      show (⟨(spanT n dL).toArray⟩ : ByteArray).size ≤ _
      rw [← by_length, by_mk]
      have : (spanT n dL).length ≤ 180 := h
      omega
theorem size_small {n : Int} (hn : in64 n) : (sizeR n).1.size ≤ 281474976710656 := by
  unfold sizeR
  split
  · exact (by decide)
  · split
    · exact (by decide)
    · obtain ⟨q, u, h, h3, h4, h5, h6⟩ := size_back 4 0 n rfl (by decide) (by omega) hn
      show (⟨(sizeT n bL).1.toArray⟩ : ByteArray).size ≤ _
      have h6' : sizeT n bL = (itoa q ++ by_ bU[u].f0, true) := h6
      rw [h6', ← by_length, by_mk, List.length_append, by_length]
      have := itoa_len h4
      have := (bU_at u h).2.2.1
      omega
theorem UnitBack : archivistlaw03_UnitBack.PureS := by
  intro n c gn gc
  have hn := in64_wf gn
  have hc := u8_wf gc
  refine Ev.rounds ?_
  unfold archivistlaw03_UnitBack.f
  have hs := shr_in (c := Int.tmod c 64) hn
  generalize shr .i64 n (Int.tmod c 64) = m at *
  refine Ev.bind unitExamples_ev (Ev.pos (by first | trivial | rfl) (Ev.pos (Int.tmod_nonneg _ hc.1) (Ev.bind (span_ev hs) (Ev.bind (sizeU_ev hs) ?_))))
  by_cases h0 : m < 0
  · have e1 : spanR m = (⟨#[]⟩, false) := by unfold spanR; rw [if_pos h0]
    have e2 : sizeR m = (⟨#[]⟩, false) := by unfold sizeR; rw [if_pos h0]
    rw [e1, e2]
    exact Ev.pos h0 (Ev.neg (by simp) (Ev.neg (by simp) (Ev.pos (by rw [toList_by]; rfl) (Ev.ret (by rw [toList_by]; rfl)))))
  · have hm : 0 ≤ m := by omega
    obtain ⟨b1, b2, b3⟩ := byt_back hm hs
    have d1 := dur_ev _ (span_small hs)
    rw [dur_back hm hs] at d1
    have d2 := dur_ev _ (size_small hs)
    rw [b3] at d2
    refine Ev.neg h0 (Ev.bind d1 ?_)
    rw [byt_ev _ (size_small hs), b2]
    have s2 : (spanR m).2 = true := by
      unfold spanR
      rw [if_neg h0]
      split <;> rfl
    exact Ev.one (Ev.bind d2 (Ev.pos s2 (Ev.pos b1 (Ev.pos rfl (Ev.pos rfl (Ev.pos rfl (Ev.pos rfl (Ev.ret rfl))))))))
end Go.Proofs.YtpijoadbaocnpaaDoor.Pure
