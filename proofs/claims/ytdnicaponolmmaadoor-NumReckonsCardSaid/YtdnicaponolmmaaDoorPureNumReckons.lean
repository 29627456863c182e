/-
  The law of sums, differences, products and the least, held against the document's answer, for the seat YtdnicaponolmmaaDoor.
-/
import Derived.Test.YtdnicaponolmmaaDoorX4
import Derived.Test.YtdnicaponolmmaaDoorRwNumReckons
import Derived.Test.YtdnicaponolmmaaDoorY
set_option linter.unusedVariables false
set_option linter.unusedSimpArgs false
namespace Go.Proofs.YtdnicaponolmmaaDoor.Pure
open Go.RowKit Go.Proofs.YtdnicaponolmmaaDoor.X Go.Proofs.YtdnicaponolmmaaDoor.B Go.Proofs.YtdnicaponolmmaaDoorW.PrintWords Go.Proofs.YtdnicaponolmmaaDoorW.PrintLast

theorem natAbs_tmod_le (x m : Int) : (Int.tmod x m).natAbs ≤ x.natAbs := by rw [Int.natAbs_tmod]; exact Nat.mod_le _ _
theorem tmod_in (x m : Int) (h : in64 x) : in64 (Int.tmod x m) := by
  unfold in64 at *
  rcases Int.le_total 0 x with h0 | h0
  · have h1 := Int.tmod_nonneg m h0
    have h2 : Int.tmod x m ≤ x := by
      have := natAbs_tmod_le x m
      omega
    omega
  · have := natAbs_tmod_le x m
    have h2 := Int.tmod_nonneg m (show 0 ≤ -x by omega)
    rw [Int.neg_tmod] at h2
    omega
theorem NumReckons : archivistlaw02_NumReckons.PureS := by
  intro l a b small gl ga gb tl
  have ha := in64_wf ga
  have hb := in64_wf gb
  have hl : ∀ x ∈ l, in64 x := fun x hx => in64_wf (gl.2 x hx)
  have hs : l.length * 8 ≤ 140737488351232 := tl.1
  clear gl tl ga gb
  refine Ev.rounds ?_
  unfold archivistlaw02_NumReckons.f
  refine Ev.bind numExamples_ev (Ev.pos (by first | trivial | rfl) (Ev.pos (by simp; omega) ?_))
  have main : ∀ m : List Int, m.length = l.length → (∀ x ∈ m, in64 x) → Ev (fun k => archivistlaw02_NumReckons.j1 k a b true m) true := by
    intro m hm hi
    have hs' : m.length < 4611686018427387904 := by omega
    refine Ev.step (fun _ => rfl) ?_
    simp only [archivistlaw02_NumReckons.j1]
    refine Ev.bind (numAdd_ev m hi hs') (Ev.bind (refAdd_ev m hi hs') (Ev.bind (numMul_ev m hi hs') (Ev.bind (refMul_ev m hi hs') ?_)))
    rw [sub_ev ha hb, refSub_ev ha hb]
    refine Ev.one (Ev.one (Ev.pos (by first | trivial | rfl) (Ev.pos (by first | trivial | rfl) (Ev.pos (by first | trivial | exact beq_self_eq_true _) (Ev.pos (by first | trivial | rfl) (Ev.pos (by first | trivial | exact beq_self_eq_true _) (Ev.pos (by first | trivial | rfl) (Ev.pos (by first | trivial | exact beq_self_eq_true _) (Ev.bind (least_ev m hs' a) (Ev.one (Ev.pos ?_ (Ev.bind (refLeast_ev m hs' a) (Ev.ret (by first | rfl | exact beq_self_eq_true _))))))))))))))
    rw [hm]
    show 1 + l.length < 17592186044416
    omega
  have loop : ∀ d i (m : List Int), m.length - i = d → i ≤ m.length → m.length = l.length → (∀ x ∈ m, in64 x) → Ev (fun k => archivistlaw02_NumReckons.l0 k a b small true m (i : Int)) true := by
    intro d
    induction d with
    | zero =>
      intro i m hd hi hm hx
      refine Ev.step (fun _ => rfl) ?_
      simp only [archivistlaw02_NumReckons.l0]
      exact Ev.neg (by omega) (main m hm hx)
    | succ d ih =>
      intro i m hd hi hm hx
      have h : i < m.length := by omega
      refine Ev.step (fun _ => rfl) ?_
      simp only [archivistlaw02_NumReckons.l0]
      refine Ev.pos (by omega) ?_
      cases small with
      | false => exact Ev.neg (by simp) (main m hm hx)
      | true =>
        refine Ev.pos (by first | trivial | rfl) (Ev.pos (by omega) ?_)
        rw [w1 i (by omega), rd_at m i h]
        refine ih (i + 1) _ (by rw [List.length_set]; omega) (by rw [List.length_set]; omega) (by rw [List.length_set]; exact hm) (fun x hx2 => ?_)
        rcases List.mem_or_eq_of_mem_set hx2 with h2 | h2
        · exact hx x h2
        · rw [h2]
          exact tmod_in _ _ (hx _ (List.getElem_mem h))
  rw [List.nil_append]
  exact loop l.length 0 l (by omega) (by omega) rfl hl
end Go.Proofs.YtdnicaponolmmaaDoor.Pure
