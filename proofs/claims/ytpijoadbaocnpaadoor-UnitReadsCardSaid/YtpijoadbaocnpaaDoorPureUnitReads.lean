/-
  The law of texts that are read as durations and sizes, held against the document's answer, for the seat YtpijoadbaocnpaaDoor.
-/
import Derived.Test.YtpijoadbaocnpaaDoorX5
import Derived.Test.YtpijoadbaocnpaaDoorX9
import Derived.Test.YtpijoadbaocnpaaDoorRwUnitReads
import Derived.Test.YtpijoadbaocnpaaDoorS
set_option linter.unusedVariables false
set_option linter.unusedSimpArgs false
namespace Go.Proofs.YtpijoadbaocnpaaDoor.Pure
open Go.RowKit Go.Proofs.YtpijoadbaocnpaaDoor.X Go.Proofs.YtpijoadbaocnpaaDoor.B Go.Proofs.YtpijoadbaocnpaaDoorW.PrintWords Go.Proofs.YtpijoadbaocnpaaDoorW.PrintLast
open Lib (itoa)

theorem u8_wf {n : Int} (h : (Lit.int .u8 n).wf = true) : 0 ≤ n ∧ n ≤ 255 := by
  simp only [Lit.wf, IntKind.min, IntKind.max, IntKind.signed, IntKind.bits, Bool.and_eq_true, decide_eq_true_eq] at h
  simp at h
  omega
def partNames : List ByteArray := [⟨#[104]⟩, ⟨#[109]⟩, ⟨#[115]⟩, ⟨#[109, 115]⟩, ⟨#[117, 115]⟩, ⟨#[110, 115]⟩, ⟨#[71, 66]⟩, ⟨#[77, 66]⟩, ⟨#[75, 66]⟩, ⟨#[66]⟩, ⟨#[]⟩, ⟨#[120]⟩]
theorem partNames_size : ∀ i : Fin 12, (rdOf ByteArray.empty partNames (i.val : Int)).size ≤ 2 := by decide
theorem part_ev {n c : Int} (hn : in64 n) (hc : 0 ≤ c ∧ c ≤ 255) : ∃ t : ByteArray, t.size ≤ 30 ∧ Ev (fun k => archivistlaw03_part.f k n c) t := by
  have h0 := Int.tmod_nonneg 12 hc.1
  have h1 := Int.tmod_lt_of_pos c (by decide : (0 : Int) < 12)
  have ht := text_size _ hn
  have hs : (rdOf ByteArray.empty partNames (Int.tmod c 12)).size ≤ 2 := by
    have := partNames_size ⟨(Int.tmod c 12).toNat, by omega⟩
    simp only [] at this
    rw [show (((Int.tmod c 12).toNat : Nat) : Int) = Int.tmod c 12 by omega] at this
    exact this
  refine ⟨⟨(itoa n).toArray⟩ ++ rdOf ByteArray.empty partNames (Int.tmod c 12), by rw [ByteArray.size_append]; omega, ?_⟩
  unfold archivistlaw03_part.f
  exact Ev.one (Ev.bind (refText_ev hn) (Ev.pos h0 (Ev.pos (by show Int.tmod c 12 < 12; omega) (Ev.pos (by show _ + (rdOf ByteArray.empty partNames (Int.tmod c 12)).size ≤ _; omega) (Ev.now _)))))
theorem UnitReads : archivistlaw03_UnitReads.PureS := by
  intro s own l n small gl gn hs tl
  have hn := in64_wf gn
  have hl : ∀ x ∈ l, 0 ≤ x ∧ x ≤ 255 := fun x hx => u8_wf (gl.2 x hx)
  refine Ev.rounds ?_
  unfold archivistlaw03_UnitReads.f
  refine Ev.bind unitExamples_ev (Ev.pos (by first | trivial | rfl) ?_)
  have last : ∀ t : ByteArray, t.size ≤ 281474976710656 → Ev (fun k => archivistlaw03_UnitReads.j2 k t true) true := by
    intro t ht
    refine Ev.step (fun _ => rfl) ?_
    simp only [archivistlaw03_UnitReads.j2]
    refine Ev.bind (dur_ev t ht) (Ev.bind (refDur_ev t ht) ?_)
    rw [byt_ev t ht]
    exact Ev.one (Ev.bind (refByt_ev t ht) (Ev.pos (by first | trivial | rfl) (Ev.pos rfl (Ev.pos (beq_self_eq_true _) (Ev.pos rfl (Ev.ret (beq_self_eq_true _)))))))
  have loop : ∀ d i (t : ByteArray), 6 - i = d → i ≤ 6 → i ≤ l.length → t.size ≤ 30 * i → Ev (fun k => archivistlaw03_UnitReads.l0 k t l n small true (i : Int)) true := by
    intro d
    induction d with
    | zero =>
      intro i t hd hi hil ht
      refine Ev.step (fun _ => rfl) ?_
      simp only [archivistlaw03_UnitReads.l0]
      have hj : Ev (fun k => archivistlaw03_UnitReads.j1 k t l n small true (i : Int) false) true := by
        refine Ev.step (fun _ => rfl) ?_
        simp only [archivistlaw03_UnitReads.j1]
        exact Ev.neg (by simp) (last t (by omega))
      rw [show decide ((i : Int) < 6) = false from decide_eq_false (by omega)]
      by_cases h : (i : Int) < (l.length : Int)
      · exact Ev.pos h hj
      · exact Ev.neg h hj
    | succ d ih =>
      intro i t hd hi hil ht
      refine Ev.step (fun _ => rfl) ?_
      simp only [archivistlaw03_UnitReads.l0]
      by_cases h : (i : Int) < (l.length : Int)
      · refine Ev.pos h ?_
        rw [show decide ((i : Int) < 6) = true from decide_eq_true (by omega)]
        have h' : i < l.length := by omega
        have hx := hl _ (List.getElem_mem h')
        refine Ev.step (fun _ => rfl) ?_
        simp only [archivistlaw03_UnitReads.j1]
        rw [w1 i (by omega), rd_at l i h']
        have q0 := Int.tdiv_eq_ediv_of_nonneg (b := 12) hx.1
        have hq : in64 ((Int.tdiv l[i] 12) % 256) := ⟨by omega, by omega⟩
        obtain ⟨t1, z1, e1⟩ := part_ev hq hx
        obtain ⟨t2, z2, e2⟩ := part_ev hn hx
        have n1 := ih (i + 1) (t ++ t1) (by omega) (by omega) (by omega) (by rw [ByteArray.size_append]; omega)
        have n2 := ih (i + 1) (t ++ t2) (by omega) (by omega) (by omega) (by rw [ByteArray.size_append]; omega)
        refine Ev.pos (by first | trivial | rfl) ?_
        cases small with
        | true => exact Ev.pos rfl (Ev.pos (by omega) (Ev.pos (by omega) (Ev.bind e1 (Ev.pos (by omega) n1))))
        | false =>
          refine Ev.neg (by simp) ?_
          by_cases hm : Int.tmod (i : Int) 2 = 0
          · exact Ev.pos hm (Ev.pos (by omega) (Ev.pos (by omega) (Ev.bind e1 (Ev.pos (by omega) n1))))
          · exact Ev.neg hm (Ev.pos (by omega) (Ev.pos (by omega) (Ev.bind e2 (Ev.pos (by omega) n2))))
      · refine Ev.neg h (Ev.step (fun _ => rfl) ?_)
        simp only [archivistlaw03_UnitReads.j1]
        exact Ev.neg (by simp) (last t (by omega))
  cases own with
  | true => exact Ev.pos rfl (loop 6 0 ⟨#[]⟩ rfl (by omega) (by omega) (by decide))
  | false => exact Ev.neg (by simp) (last s (by omega))
end Go.Proofs.YtpijoadbaocnpaaDoor.Pure
