/-
  The law of numbers that are added and multiplied one by one, for the seat YtdnicaponolmmaaDoor.
-/
import Derived.Test.YtdnicaponolmmaaDoorX8
import Derived.Test.YtdnicaponolmmaaDoorRwNumMany
import Derived.Test.YtdnicaponolmmaaDoorY
set_option linter.unusedVariables false
set_option linter.unusedSimpArgs false
namespace Go.Proofs.YtdnicaponolmmaaDoor.Pure
open Go.RowKit Go.Proofs.YtdnicaponolmmaaDoor.X Go.Proofs.YtdnicaponolmmaaDoor.B Go.Proofs.YtdnicaponolmmaaDoorW.PrintWords Go.Proofs.YtdnicaponolmmaaDoorW.PrintLast

theorem natAbs_tmod_le (x m : Int) : (Int.tmod x m).natAbs ≤ x.natAbs := by rw [Int.natAbs_tmod]; exact Nat.mod_le _ _
theorem tmod_in (x m : Int) (h : in64 x) : in64 (Int.tmod x m) := by
  unfold in64 at *
  rcases Int.le_total 0 x with h0 | h0
  · have h1 := Int.tmod_nonneg m h0
    have h2 : Int.tmod x m ≤ x := by
      have := natAbs_tmod_le x m
      omega
    omega
  · have := natAbs_tmod_le x m
    have h2 := Int.tmod_nonneg m (show 0 ≤ -x by omega)
    rw [Int.neg_tmod] at h2
    omega
theorem take_snoc (m : List Int) (i : Nat) (h : i < m.length) : m.take (i + 1) = m.take i ++ [m[i]] := by
  rw [List.take_add_one, List.getElem?_eq_getElem h]
  rfl
theorem many_loop (m : List Int) (hm : ∀ x ∈ m, in64 x) (hs : m.length ≤ 100) : ∀ d i a x b y, m.length - i = d → i ≤ m.length → (a, x) = foldP (· + ·) 0 (m.take i) → (b, y) = foldP (· * ·) 1 (m.take i) →
    Ev (fun k => archivistlaw02_NumMany.l1 k true m (foldP (· + ·) 0 m).1 (foldP (· + ·) 0 m).2 (foldP (· * ·) 1 m).1 (foldP (· * ·) 1 m).2 a b x y (i : Int)) true := by
  intro d
  induction d with
  | zero =>
    intro i a x b y hd hi h1 h2
    rw [List.take_of_length_le (by omega)] at h1 h2
    rw [← h1, ← h2]
    refine Ev.step (fun _ => rfl) ?_
    simp only [archivistlaw02_NumMany.l1]
    exact Ev.neg (by omega) (Ev.pos (by first | trivial | rfl) (Ev.pos (by first | trivial | exact beq_self_eq_true _) (Ev.pos (by first | trivial | rfl) (Ev.pos (by first | trivial | exact beq_self_eq_true _) (Ev.ret (by first | rfl | exact beq_self_eq_true _))))))
  | succ d ih =>
    intro i a x b y hd hi h1 h2
    have h : i < m.length := by omega
    have hin := hm _ (List.getElem_mem h)
    have ia : in64 a := by
      have := foldP_in (· + ·) (m.take i) 0 ⟨by decide, by decide⟩
      rw [← h1] at this
      exact this
    have ib : in64 b := by
      have := foldP_in (· * ·) (m.take i) 1 ⟨by decide, by decide⟩
      rw [← h2] at this
      exact this
    have n1 : foldP (· + ·) 0 (m.take (i + 1)) = if x = true then (if in64 (a + m[i]) then (a + m[i], true) else (0, false)) else (0, false) := by
      rw [take_snoc m i h, foldP_snoc, ← h1]
    have n2 : foldP (· * ·) 1 (m.take (i + 1)) = if y = true then (if in64 (b * m[i]) then (b * m[i], true) else (0, false)) else (0, false) := by
      rw [take_snoc m i h, foldP_snoc, ← h2]
    refine Ev.step (fun _ => rfl) ?_
    simp only [archivistlaw02_NumMany.l1]
    refine Ev.pos (by omega) ?_
    rw [rd_at m i h, w1 i (by omega)]
    have fx : x = false → a = 0 := fun e => by
      have := foldP_false (· + ·) (m.take i) 0 (by rw [← h1]; exact e)
      rw [← h1] at this
      exact (Prod.mk.inj this).1
    have fy : y = false → b = 0 := fun e => by
      have := foldP_false (· * ·) (m.take i) 1 (by rw [← h2]; exact e)
      rw [← h2] at this
      exact (Prod.mk.inj this).1
    cases x with
    | true =>
      refine Ev.pos (by first | trivial | rfl) (Ev.pos (by omega) (Ev.bind (add2 ia hin) ?_))
      cases y with
      | true =>
        refine Ev.pos (by first | trivial | rfl) (Ev.bind (mul2 ib hin) (ih (i + 1) _ _ _ _ (by omega) (by omega) ?_ ?_))
        · rw [n1, if_pos rfl]
        · rw [n2, if_pos rfl]
      | false =>
        refine Ev.neg (by simp) (ih (i + 1) _ _ _ _ (by omega) (by omega) ?_ ?_)
        · rw [n1, if_pos rfl]
        · rw [n2, if_neg (by simp), fy rfl]
    | false =>
      refine Ev.neg (by simp) ?_
      cases y with
      | true =>
        refine Ev.pos (by first | trivial | rfl) (Ev.pos (by omega) (Ev.bind (mul2 ib hin) (ih (i + 1) _ _ _ _ (by omega) (by omega) ?_ ?_)))
        · rw [n1, if_neg (by simp), fx rfl]
        · rw [n2, if_pos rfl]
      | false =>
        refine Ev.neg (by simp) (ih (i + 1) _ _ _ _ (by omega) (by omega) ?_ ?_)
        · rw [n1, if_neg (by simp), fx rfl]
        · rw [n2, if_neg (by simp), fy rfl]
theorem NumMany : archivistlaw02_NumMany.PureS := by
  intro l small gl tl
  have hl : ∀ x ∈ l, in64 x := fun x hx => in64_wf (gl.2 x hx)
  have hs : l.length * 8 ≤ 140737488351232 := tl.1
  clear gl tl
  refine Ev.rounds ?_
  unfold archivistlaw02_NumMany.f
  refine Ev.bind numExamples_ev (Ev.pos (by first | trivial | rfl) ?_)
  have last : ∀ (m : List Int) (i : Int), m.length ≤ 12 → (∀ x ∈ m, in64 x) → Ev (fun k => archivistlaw02_NumMany.j1 k l small true m i false) true := by
    intro m i hm hx
    refine Ev.step (fun _ => rfl) ?_
    simp only [archivistlaw02_NumMany.j1]
    exact Ev.neg (by simp) (Ev.bind (numAdd_ev m hx (by omega)) (Ev.bind (numMul_ev m hx (by omega)) (many_loop m hx (by omega) m.length 0 0 true 1 true (by omega) (by omega) rfl rfl)))
  have loop : ∀ d i (m : List Int), 12 - i = d → i ≤ 12 → i ≤ l.length → m.length = i → (∀ x ∈ m, in64 x) → Ev (fun k => archivistlaw02_NumMany.l0 k l small true m (i : Int)) true := by
    intro d
    induction d with
    | zero =>
      intro i m hd hi hil hm hx
      refine Ev.step (fun _ => rfl) ?_
      simp only [archivistlaw02_NumMany.l0]
      rw [show decide ((i : Int) < 12) = false from decide_eq_false (by omega)]
      by_cases h : (i : Int) < (l.length : Int)
      · exact Ev.pos h (last m _ (by omega) hx)
      · exact Ev.neg h (last m _ (by omega) hx)
    | succ d ih =>
      intro i m hd hi hil hm hx
      refine Ev.step (fun _ => rfl) ?_
      simp only [archivistlaw02_NumMany.l0]
      by_cases h : (i : Int) < (l.length : Int)
      · refine Ev.pos h ?_
        have h' : i < l.length := by omega
        rw [show decide ((i : Int) < 12) = true from decide_eq_true (by omega)]
        refine Ev.step (fun _ => rfl) ?_
        simp only [archivistlaw02_NumMany.j1]
        refine Ev.pos trivial (Ev.pos (by omega) (Ev.pos (by omega) ?_))
        rw [w1 i (by omega), rd_at l i h']
        have hin := hl _ (List.getElem_mem h')
        cases small with
        | true =>
          refine Ev.pos (by first | trivial | rfl) (Ev.pos (by omega) (ih (i + 1) _ (by omega) (by omega) (by omega) (by simp; omega) (fun x hx2 => ?_)))
          rcases List.mem_append.1 hx2 with h2 | h2
          · exact hx x h2
          · obtain rfl := List.mem_singleton.1 h2
            exact tmod_in _ _ hin
        | false =>
          refine Ev.neg (by simp) (Ev.pos (by omega) (ih (i + 1) _ (by omega) (by omega) (by omega) (by simp; omega) (fun x hx2 => ?_)))
          rcases List.mem_append.1 hx2 with h2 | h2
          · exact hx x h2
          · obtain rfl := List.mem_singleton.1 h2
            exact hin
      · exact Ev.neg h (last m _ (by omega) hx)
  exact loop 12 0 [] (by omega) (by omega) (by omega) rfl (fun x hx => by simp at hx)
end Go.Proofs.YtdnicaponolmmaaDoor.Pure
