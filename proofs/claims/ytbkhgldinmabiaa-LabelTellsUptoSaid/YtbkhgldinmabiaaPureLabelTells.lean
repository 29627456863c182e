/-
  The law of names and of labels, right or not, made to a set, looked up, put and held against others, for the seat Ytbkhgldinmabiaa.
-/
import Derived.Test.YtbkhgldinmabiaaX23
import Derived.Test.YtbkhgldinmabiaaRwLabelTells
import Derived.Test.YtbkhgldinmabiaaJ
set_option linter.unusedVariables false
set_option linter.unusedSimpArgs false
namespace Go.Proofs.Ytbkhgldinmabiaa.Pure
open Go.RowKit Go.Proofs.Ytbkhgldinmabiaa.X Go.Proofs.Ytbkhgldinmabiaa.B Go.Proofs.YtbkhgldinmabiaaW.PrintWords Go.Proofs.YtbkhgldinmabiaaW.PrintLast

theorem sum_mem {α : Type} (f : α → Nat) : ∀ {l : List α} {y : α}, y ∈ l → f y ≤ (l.map f).sum
  | x :: l, y, h => by
    rw [List.map_cons, List.sum_cons]
    rcases List.mem_cons.1 h with rfl | h
    · omega
    · have := sum_mem f h
      omega
theorem samePairs_self (a : List Lab) (hl : a.length ≤ 1000000) : Ev (fun k => archivistlaw06_samePairs.f k a (a.map toR)) true := by
  have h := samePairs_ev a a hl
  rwa [decide_eq_true rfl] at h
theorem LabelTells : archivistlaw06_LabelTells.PureU := by
  intro x y name gx gy hu
  have hx : ∀ p ∈ x, p.f0.f0.size ≤ 1048576 ∧ p.f0.f1.size ≤ 1048576 := fun p hp => by
    have := sum_mem (fun y0 => m76 y0) hp
    unfold m76 m29 at this hu
    omega
  refine Ev.rounds ?_
  unfold archivistlaw06_LabelTells.f
  obtain ⟨A, hA, dA, ha⟩ := tags_ev x (fun y hy => (gx.2 y hy).2.2) 20 (by omega)
  obtain ⟨B, hB, dB, hb⟩ := tags_ev y (fun z hz => (gy.2 z hz).2.2) 6 (by omega)
  have zA : ∀ p ∈ A, p.f0.size ≤ 1048576 ∧ p.f1.size ≤ 1048576 := fun p hp => by
    rcases dA p hp with ⟨q, hq, e1, e2⟩ | h
    · have := hx q hq
      rw [e1, e2]
      exact this
    · omega
  have lA : (A.map toR).length = A.length := List.length_map ..
  have lB : (B.map toR).length = B.length := List.length_map ..
  have key : ∀ n : ByteArray, Ev (fun k => archivistlaw06_LabelTells.j1 k n true A B (A.map toR) (B.map toR)) true := by
    intro n
    have hj3 : Ev (fun k => archivistlaw06_LabelTells.j3 k n true A B (A.map toR) (B.map toR) (getR (getL A n)).1 (getR (getL A n)).2 (getR (getL A n)).1 (getR (getL A n)).2 true true (decide (A = B))) true := by
      have hj := join_len 10000003 (A.map fieldP) (fun f hf => by
        obtain ⟨p, hp, rfl⟩ := List.mem_map.1 hf
        have h1 := field_len p
        have h2 := zA p hp
        omega)
      rw [List.length_map] at hj
      have h3 : A.length * (10000003 + 1) ≤ 20 * (10000003 + 1) := Nat.mul_le_mul_right _ hA
      have ht := text_set_ev A (by omega) (fun p hp => by have := zA p hp; omega) (by omega)
      refine Ev.step (fun _ => rfl) ?_
      simp only [archivistlaw06_LabelTells.j3]
      refine Ev.pos (by first | exact trivial | rfl) (Ev.pos (by first | exact trivial | rfl) (Ev.pos (by first | exact trivial | rfl) (Ev.pos (by first | exact trivial | rfl) (Ev.pos (by first | exact trivial | exact beq_self_eq_true _) ?_))))
      refine Ev.bind (name_ev n) (Ev.bind (refName_ev n) (Ev.pos (beq_self_eq_true _) ?_))
      refine Ev.bind (right_ev A (by omega)) (Ev.bind (refRight_ev A) (Ev.pos (beq_self_eq_true _) ?_))
      refine Ev.bind ht (Ev.bind (refText_ev A (by omega) zA) (Ev.pos rfl ?_))
      refine Ev.bind (order_ev A B (by omega)) (Ev.bind (refOrder_ev A B (by omega)) (Ev.pos rfl ?_))
      exact Ev.bind (same_ev A B (by omega)) (Ev.ret (beq_self_eq_true _))
    have hno : ∀ i : Int, Ev (fun k => archivistlaw06_LabelTells.j3 k n true A B (A.map toR) (B.map toR) (getR (getL A n)).1 (getR (getL A n)).2 (getR (getL A n)).1 (getR (getL A n)).2 true true false) true →
        Ev (fun k => archivistlaw06_LabelTells.l0 k n true A B (A.map toR) (B.map toR) (getR (getL A n)).1 (getR (getL A n)).2 (getR (getL A n)).1 (getR (getL A n)).2 true true false i) true := by
      intro i h
      refine Ev.step (fun _ => rfl) ?_
      simp only [archivistlaw06_LabelTells.l0]
      by_cases hi : i < ((A.map toR).length : Int)
      · exact Ev.pos hi (Ev.neg (by simp) h)
      · exact Ev.neg hi h
    have hl : A.length = B.length → ∀ d i, A.length - i = d → i ≤ A.length →
        Ev (fun k => archivistlaw06_LabelTells.j3 k n true A B (A.map toR) (B.map toR) (getR (getL A n)).1 (getR (getL A n)).2 (getR (getL A n)).1 (getR (getL A n)).2 true true (decide (A.drop i = B.drop i))) true →
        Ev (fun k => archivistlaw06_LabelTells.l0 k n true A B (A.map toR) (B.map toR) (getR (getL A n)).1 (getR (getL A n)).2 (getR (getL A n)).1 (getR (getL A n)).2 true true true (i : Int)) true := by
      intro hAB d
      induction d with
      | zero =>
        intro i hd hi h
        rw [List.drop_of_length_le (by omega), List.drop_of_length_le (by omega), decide_eq_true rfl] at h
        refine Ev.step (fun _ => rfl) ?_
        simp only [archivistlaw06_LabelTells.l0]
        exact Ev.neg (by omega) h
      | succ d ih =>
        intro i hd hi h
        have hlt : i < A.length := by omega
        have hlt2 : i < B.length := by omega
        rw [List.drop_eq_getElem_cons hlt, List.drop_eq_getElem_cons hlt2] at h
        refine Ev.step (fun _ => rfl) ?_
        simp only [archivistlaw06_LabelTells.l0]
        rw [rdR A i hlt, rdR B i hlt2, w1 i (by omega)]
        dsimp only
        refine Ev.pos (by omega) (Ev.pos (by trivial) (Ev.pos (by omega) (Ev.pos (by omega) ?_)))
        by_cases he : A[i] = B[i]
        · have e1 : (A[i].f0.toList == B[i].f0.toList && A[i].f1.toList == B[i].f1.toList) = true := by rw [he]; simp
          rw [e1]
          refine ih (i + 1) (by omega) (by omega) ?_
          have e2 : decide (A.drop (i + 1) = B.drop (i + 1)) = decide (A[i] :: A.drop (i + 1) = B[i] :: B.drop (i + 1)) := by
            rw [decide_eq_decide, List.cons.injEq]
            exact ⟨fun h => ⟨he, h⟩, And.right⟩
          rw [e2]
          exact h
        · have e1 : (A[i].f0.toList == B[i].f0.toList && A[i].f1.toList == B[i].f1.toList) = false := by
            rw [Bool.and_eq_false_iff]
            by_cases h0 : A[i].f0 = B[i].f0
            · exact .inr (beq_eq_false_iff_ne.2 fun e => he (lab_ext h0 (ba_eq.1 e)))
            · exact .inl (beq_eq_false_iff_ne.2 fun e => h0 (ba_eq.1 e))
          rw [e1]
          rw [decide_eq_false (fun e => he (by injection e))] at h
          exact hno _ h
    refine Ev.step (fun _ => rfl) ?_
    simp only [archivistlaw06_LabelTells.j1]
    refine Ev.bind (getSet_ev A (by omega) n) (Ev.bind (refGetS_ev A (by omega) n) (Ev.bind (of_ev A (by omega)) (Ev.bind (refOf_ev A (by omega)) (Ev.bind (samePairs_self _ (by have := of_len A; omega)) ?_))))
    refine Ev.bind (with_ev A B (by omega) (by omega)) (Ev.bind (refWith_ev A B (by omega) (by omega)) (Ev.bind (samePairs_self _ (by have := of_len (A ++ B); rw [List.length_append] at this; omega)) ?_))
    by_cases hAB : A.length = B.length
    · have e : (((A.map toR).length : Int) == ((B.map toR).length : Int)) = true := by rw [beq_iff_eq]; omega
      rw [e]
      exact hl hAB A.length 0 rfl (Nat.zero_le _) hj3
    · have e : (((A.map toR).length : Int) == ((B.map toR).length : Int)) = false := by rw [beq_eq_false_iff_ne]; omega
      rw [e]
      rw [decide_eq_false (fun e => hAB (by rw [e]))] at hj3
      exact hno _ hj3
  refine Ev.bind labelExamples_ev (Ev.pos (by trivial) (Ev.bind ha (Ev.bind hb (Ev.bind (refPairs_ev A (by omega)) (Ev.bind (refPairs_ev B (by omega)) ?_)))))
  have hj0 : ∀ b : Bool, (b = true → 0 < A.length) → Ev (fun k => archivistlaw06_LabelTells.j0 k name true A B (A.map toR) (B.map toR) b) true := by
    intro b hb
    refine Ev.step (fun _ => rfl) ?_
    simp only [archivistlaw06_LabelTells.j0]
    cases b with
    | true =>
      have := hb rfl
      exact Ev.pos (by trivial) (Ev.pos (by omega) (key _))
    | false => exact Ev.neg (by simp) (key _)
  by_cases h0 : (A.length : Int) > 0
  · exact Ev.pos h0 (hj0 _ (fun _ => by omega))
  · exact Ev.neg h0 (hj0 _ (fun h => by cases h))
end Go.Proofs.Ytbkhgldinmabiaa.Pure
