/-
  What Get, With, Same and Order of package label tell, in plain lists, for the seat Ytbkhgldinmabiaa.
-/
import Derived.Test.YtbkhgldinmabiaaX10
import Derived.Test.YtbkhgldinmabiaaX3
import Derived.Test.YtbkhgldinmabiaaX6
import Derived.Test.YtbkhgldinmabiaaX9
import Derived.Test.YtbkhgldinmabiaaA
set_option linter.unusedVariables false
set_option linter.unusedSimpArgs false
namespace Go.Proofs.Ytbkhgldinmabiaa.B
open Go.RowKit Go.Proofs.Ytbkhgldinmabiaa.X Go.Proofs.YtbkhgldinmabiaaW.PrintWords Go.Proofs.YtbkhgldinmabiaaW.PrintLast

theorem ba_eq {a b : ByteArray} : a.toList = b.toList ↔ a = b := by
  rw [toList_by, toList_by]
  exact ⟨by_ext, fun h => by rw [h]⟩
def getR (o : Option ByteArray) : ByteArray × Bool := match o with
  | some v => (v, true)
  | none => (⟨#[]⟩, false)
theorem getSet_loop (l : List Lab) (hl : l.length ≤ 1000000) (n : ByteArray) : ∀ (d i : Nat), l.length - i = d → i ≤ l.length →
    Ev (fun k => label_Set_Get.l0 k n l (l.length : Int) (i : Int)) (getR (getL (l.drop i) n)) := by
  intro d
  induction d with
  | zero =>
    intro i hd hi
    refine Ev.step (fun _ => rfl) ?_
    simp only [label_Set_Get.l0]
    rw [List.drop_of_length_le (by omega)]
    exact Ev.neg (by omega) (Ev.now _)
  | succ d ih =>
    intro i hd hi
    have hlt : i < l.length := by omega
    have ih' := ih (i + 1) (by omega) (by omega)
    refine Ev.step (fun _ => rfl) ?_
    simp only [label_Set_Get.l0]
    rw [rdLab l i hlt, w1 i (by omega), List.drop_eq_getElem_cons hlt, getL_cons]
    refine Ev.pos (by omega) (Ev.pos (by omega) (Ev.pos (by omega) ?_))
    by_cases h : l[i].f0 = n
    · rw [if_pos h]
      exact Ev.pos (ba_eq.2 h) (Ev.now _)
    · rw [if_neg h]
      exact Ev.neg (fun e => h (ba_eq.1 e)) ih'
theorem getSet_ev (l : List Lab) (hl : l.length ≤ 1000000) (n : ByteArray) : Ev (fun k => label_Set_Get.f k l n) (getR (getL l n)) := by
  have h := getSet_loop l hl n l.length 0 rfl (Nat.zero_le _)
  rw [List.drop_zero] at h
  exact h
/-! ### are two the same? -/
instance : DecidableEq Lab := fun a b =>
  if h : a.f0 = b.f0 ∧ a.f1 = b.f1 then isTrue (by
    cases a
    cases b
    simp only at h
    rw [h.1, h.2]) else isFalse (fun e => h (by rw [e]; exact ⟨rfl, rfl⟩))
theorem lab_eq {a b : Lab} : (!(a.f0.toList == b.f0.toList) || (!(a.f1.toList == b.f1.toList))) = true ↔ a ≠ b := by
  cases a
  cases b
  simp only [Bool.or_eq_true, Bool.not_eq_true', beq_eq_false_iff_ne, ne_eq, ba_eq, S29.mk.injEq]
  exact ⟨fun h e => h.elim (fun h => h e.1) (fun h => h e.2), fun h => by
    rename_i a0 a1 b0 b1
    by_cases e : a0 = b0
    · exact .inr fun e2 => h ⟨e, e2⟩
    · exact .inl e⟩
theorem same_loop (l r : List Lab) (hl : l.length ≤ 1000000) (hlr : l.length = r.length) : ∀ (d i : Nat), l.length - i = d → i ≤ l.length →
    Ev (fun k => label_Pair_63.l0 k l r (l.length : Int) (i : Int)) (decide (l.drop i = r.drop i)) := by
  intro d
  induction d with
  | zero =>
    intro i hd hi
    refine Ev.step (fun _ => rfl) ?_
    simp only [label_Pair_63.l0]
    rw [List.drop_of_length_le (by omega), List.drop_of_length_le (by omega)]
    exact Ev.neg (by omega) (Ev.ret (by simp))
  | succ d ih =>
    intro i hd hi
    have hlt : i < l.length := by omega
    have hlt2 : i < r.length := by omega
    have ih' := ih (i + 1) (by omega) (by omega)
    refine Ev.step (fun _ => rfl) ?_
    simp only [label_Pair_63.l0]
    rw [rdLab l i hlt, rdLab r i hlt2, w1 i (by omega), List.drop_eq_getElem_cons hlt, List.drop_eq_getElem_cons hlt2]
    refine Ev.pos (by omega) (Ev.pos (by omega) (Ev.pos (by omega) (Ev.pos (by omega) ?_)))
    by_cases h : l[i] = r[i]
    · refine Ev.neg (fun e => lab_eq.1 e h) ?_
      have e : decide (l[i] :: l.drop (i + 1) = r[i] :: r.drop (i + 1)) = decide (l.drop (i + 1) = r.drop (i + 1)) := decide_eq_decide.2 ⟨fun e => (List.cons.inj e).2, fun e => by rw [h, e]⟩
      rw [e]
      exact ih'
    · refine Ev.pos (lab_eq.2 h) (Ev.ret ?_)
      symm
      rw [decide_eq_false_iff_not]
      intro e
      injection e with e1 e2
      exact h e1
theorem same_ev (l r : List Lab) (hl : l.length ≤ 1000000) : Ev (fun k => label_Same.f k l r) (decide (l = r)) := by
  unfold label_Same.f label_Pair_63.f
  by_cases h : l.length = r.length
  · have h2 := same_loop l r hl h l.length 0 rfl (Nat.zero_le _)
    rw [List.drop_zero, List.drop_zero] at h2
    refine Ev.bind (Ev.pos (by omega) h2) (Ev.now _)
  · have e : decide (l = r) = false := decide_eq_false (fun e => h (by rw [e]))
    rw [e]
    exact Ev.bind (Ev.neg (by omega) (Ev.now _)) (Ev.now _)
/-! ### with more -/
theorem concat_ev (l r : List Lab) (hl : l.length ≤ 1000000) (hr : r.length ≤ 1000000) : Ev (fun k => label_Pair_53.f k [l, r]) (l ++ r) := by
  unfold label_Pair_53.f
  have e1 : wrap64 (0 + (l.length : Int)) = (l.length : Int) := by rw [wrap_in] <;> omega
  have e2 : wrap64 ((l.length : Int) + (r.length : Int)) = ((l.length + r.length : Nat) : Int) := by rw [wrap_in] <;> omega
  have r0 : rd_L3 [l, r] 0 = l := rfl
  have r1 : rd_L3 [l, r] 1 = r := rfl
  have hg : label_Pair_74.f [] ((l.length + r.length : Nat) : Int) = some [] := by
    unfold label_Pair_74.f
    rw [if_pos ⟨by omega, by simp; omega⟩]
  refine Ev.step (fun _ => rfl) ?_
  simp only [label_Pair_53.l0]
  rw [r0, e1]
  refine Ev.pos (by simp) (Ev.pos (by decide) (Ev.pos (by simp) (Ev.neg (by omega) (Ev.step (fun _ => rfl) ?_))))
  simp only [label_Pair_53.l0]
  rw [show wrap64 (0 + 1) = 1 by rw [wrap_in] <;> omega, r1, e2]
  refine Ev.pos (by simp) (Ev.pos (by decide) (Ev.pos (by simp) (Ev.neg (by omega) (Ev.step (fun _ => rfl) ?_))))
  simp only [label_Pair_53.l0]
  rw [show wrap64 (1 + 1) = 2 by rw [wrap_in] <;> omega, hg]
  refine Ev.neg (by simp) (Ev.one (Ev.step (fun _ => rfl) ?_))
  simp only [label_Pair_53.l1]
  rw [r0]
  refine Ev.pos (by simp) (Ev.pos (by decide) (Ev.pos (by simp) (Ev.pos (by simp; omega) (Ev.step (fun _ => rfl) ?_))))
  simp only [label_Pair_53.l1]
  rw [show wrap64 (0 + 1) = 1 by rw [wrap_in] <;> omega, r1, List.nil_append]
  refine Ev.pos (by simp) (Ev.pos (by decide) (Ev.pos (by simp) (Ev.pos (by omega) (Ev.step (fun _ => rfl) ?_))))
  simp only [label_Pair_53.l1]
  rw [show wrap64 (1 + 1) = 2 by rw [wrap_in] <;> omega]
  exact Ev.neg (by simp) (Ev.now _)
theorem with_ev (l r : List Lab) (hl : l.length ≤ 1000) (hr : r.length ≤ 1000) : Ev (fun k => label_Set_With.f k l r) (ofP [] (l ++ r)) := by
  unfold label_Set_With.f
  exact Ev.bind (concat_ev l r (by omega) (by omega)) (Ev.bind (of_ev (l ++ r) (by rw [List.length_append]; omega)) (Ev.now _))
end Go.Proofs.Ytbkhgldinmabiaa.B
