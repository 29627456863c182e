/-
  The law of fields that were put, for the seat Ytielpefbgdilaaa.
-/
import Derived.Test.YtielpefbgdilaaaX14
import Derived.Test.YtielpefbgdilaaaRwLogfmtBack
import Derived.Test.YtielpefbgdilaaaJ
set_option linter.unusedVariables false
set_option linter.unusedSimpArgs false
namespace Go.Proofs.Ytielpefbgdilaaa.Pure
open Go.RowKit Go.Proofs.Ytielpefbgdilaaa.X Go.Proofs.Ytielpefbgdilaaa.B Go.Proofs.YtielpefbgdilaaaW.PrintWords Go.Proofs.YtielpefbgdilaaaW.PrintLast

theorem lb_l2 (p S : List Lab) (hS : S.length ≤ 16) (hp : p.length ≤ 40) (hg : S.length < 16 → ∀ (j : Nat) (h : j < p.length), getL S p[j].f0 = getL p p[j].f0) (i : Nat) (hi : i < p.length)
    (hnext : Ev (fun k => archivistlaw10_LogfmtBack.l1 k true p p S ((i + 1 : Nat) : Int)) true) : ∀ (e q : Nat) (b : Bool), i - q = e → q ≤ i → (b = true → ∀ (j : Nat) (h : j < p.length), j < q → p[j].f0 ≠ p[i].f0) →
    Ev (fun k => archivistlaw10_LogfmtBack.l2 k true p p S (i : Int) b (q : Int)) true := by
  intro e
  induction e with
  | zero =>
    intro q b he hq hb
    obtain rfl : q = i := by omega
    refine Ev.step (fun _ => rfl) ?_
    simp only [archivistlaw10_LogfmtBack.l2]
    rw [rdLab p q hi, w1 q (by omega)]
    refine Ev.neg (by omega) (Ev.pos (by omega) (Ev.pos (by omega) (Ev.bind (getSet_ev S (by omega) _) ?_)))
    by_cases h16 : S.length < 16
    · obtain ⟨v, hv, hf⟩ := getL_at p q hi
      rw [hg h16 q hi, hv]
      refine Ev.pos (by omega) (Ev.pos rfl ?_)
      cases b with
      | false => exact Ev.neg (by simp) hnext
      | true =>
        refine Ev.pos rfl (Ev.pos ?_ hnext)
        rw [hf (fun j hj hjq => hb rfl j hj hjq)]
        rfl
    · exact Ev.neg (by omega) hnext
  | succ e ih =>
    intro q b he hq hb
    refine Ev.step (fun _ => rfl) ?_
    simp only [archivistlaw10_LogfmtBack.l2]
    have hql : q < p.length := by omega
    rw [rdLab p q hql, rdLab p i hi, w1 q (by omega)]
    refine Ev.pos (by omega) ?_
    cases b with
    | false => exact Ev.neg (by simp) (ih (q + 1) false (by omega) (by omega) (fun h => by cases h))
    | true =>
      refine Ev.pos rfl (Ev.pos (by omega) (Ev.pos (by omega) (Ev.pos (by omega) (Ev.pos (by omega) (ih (q + 1) _ (by omega) (by omega) ?_)))))
      intro hne j hj hjq
      rcases Nat.lt_or_ge j q with h | h
      · exact hb rfl j hj h
      · obtain rfl : j = q := by omega
        intro he
        rw [he] at hne
        simp at hne
theorem lb_l1 (p S : List Lab) (hS : S.length ≤ 16) (hp : p.length ≤ 40) (hR : rightL S = true) (hg : S.length < 16 → ∀ (j : Nat) (h : j < p.length), getL S p[j].f0 = getL p p[j].f0) : ∀ (d i : Nat), p.length - i = d → i ≤ p.length →
    Ev (fun k => archivistlaw10_LogfmtBack.l1 k true p p S (i : Int)) true := by
  intro d
  induction d with
  | zero =>
    intro i hd hi
    refine Ev.step (fun _ => rfl) ?_
    simp only [archivistlaw10_LogfmtBack.l1]
    have h := right_ev S (by omega)
    rw [hR] at h
    exact Ev.neg (by omega) (Ev.pos (by first | trivial | rfl) (Ev.bind h (Ev.now _)))
  | succ d ih =>
    intro i hd hi
    have hlt : i < p.length := by omega
    refine Ev.step (fun _ => rfl) ?_
    simp only [archivistlaw10_LogfmtBack.l1]
    rw [rdLab p i hlt]
    refine Ev.pos (by omega) (Ev.pos (by omega) (Ev.pos (by omega) (Ev.neg (fun h => lab_eq.1 h rfl) ?_)))
    exact lb_l2 p S hS hp hg i hlt (ih (i + 1) (by omega) (by omega)) i 0 true (by omega) (Nat.zero_le _) (fun _ j _ h => absurd h (Nat.not_lt_zero _))
theorem lb_end (x : List Tg) (p : List Lab) (hp : p.length ≤ 40) (hok : ∀ q ∈ p, okF q) (i : Int) : Ev (fun k => archivistlaw10_LogfmtBack.j1 k x true p i false) true := by
  have hz : ∀ q ∈ p, q.f0.size ≤ 32 ∧ q.f1.size ≤ 256 := fun q hq => ⟨by rw [← by_length]; exact (nameP_all (hok q hq).1).2.2, (hok q hq).2⟩
  have hlen := putF_len 1059 p (fun q hq => by have := fieldB_len q; have := hz q hq; omega)
  have hmul : p.length * (1059 + 1) ≤ 40 * (1059 + 1) := Nat.mul_le_mul_right _ hp
  have hasc := putF_asc p (fun q hq => (hok q hq).1)
  have hsz : (⟨(putF p).toArray⟩ : ByteArray).size = (putF p).length := by rw [← by_length, by_mk]
  have hall : allW (putF p) [] = p := by
    have h := allW_puts p [] hok (by omega)
    rwa [List.append_nil, allW_nil] at h
  have ha := all_ev ⟨(putF p).toArray⟩ (by omega) (by rw [by_mk]; exact hasc)
  have ho := of10_ev ⟨(putF p).toArray⟩ (by omega) (by rw [by_mk]; exact hasc)
  rw [by_mk] at ha ho
  obtain ⟨hR, hS⟩ := ofW_right (putF p)
  rw [hall] at ha
  refine Ev.step (fun _ => rfl) ?_
  simp only [archivistlaw10_LogfmtBack.j1]
  refine Ev.neg (by simp) (Ev.bind (putF_ev p (by omega) (fun q hq => by have := hz q hq; omega)) (Ev.bind ha (Ev.bind ho (Ev.pos rfl ?_))))
  refine lb_l1 p (ofW (putF p)) hS hp hR (fun h16 j hj => ?_) p.length 0 rfl (Nat.zero_le _)
  have hn := (hok p[j] (List.getElem_mem hj)).1
  unfold ofW at h16 ⊢
  rw [hall] at h16 ⊢
  rw [List.length_take] at h16
  rw [List.take_of_length_le (by omega), of_get, if_pos hn, List.reverse_reverse]
theorem lb_l0 (x : List Tg) (hg : ∀ y ∈ x, 0 ≤ y.f2 ∧ y.f2 < 256) : ∀ (d i : Nat) (p : List Lab), 40 - i = d → i ≤ 40 → p.length ≤ i → (∀ q ∈ p, okF q) → Ev (fun k => archivistlaw10_LogfmtBack.l0 k x true p (i : Int)) true := by
  intro d
  induction d with
  | zero =>
    intro i p hd hi hp hok
    refine Ev.step (fun _ => rfl) ?_
    simp only [archivistlaw10_LogfmtBack.l0]
    rw [decide_eq_false (show ¬ (i : Int) < 40 by omega)]
    by_cases h : (i : Int) < (x.length : Int)
    · exact Ev.pos h (lb_end x p (by omega) hok _)
    · exact Ev.neg h (lb_end x p (by omega) hok _)
  | succ d ih =>
    intro i p hd hi hp hok
    refine Ev.step (fun _ => rfl) ?_
    simp only [archivistlaw10_LogfmtBack.l0]
    by_cases h : i < x.length
    · refine Ev.pos (by omega) ?_
      rw [decide_eq_true (show (i : Int) < 40 by omega)]
      have hy := hg x[i] (List.getElem_mem h)
      obtain ⟨t, ht, _⟩ := tag_f x[i].f0.f0 x[i].f0.f1 x[i].f1 x[i].f2 hy.1 hy.2
      refine Ev.step (fun _ => rfl) ?_
      simp only [archivistlaw10_LogfmtBack.j1]
      rw [rdTag x i h, ht, w1 i (by omega)]
      refine Ev.pos (by first | trivial | rfl) (Ev.pos (by omega) (Ev.pos (by omega) (Ev.one (Ev.bind (name_ev t.1) ?_))))
      have ih0 := ih (i + 1) p (by omega) (by omega) (by omega) hok
      cases hn : nameP (by_ t.1) with
      | false => exact Ev.neg (by simp) ih0
      | true =>
        refine Ev.pos rfl ?_
        by_cases hv : (t.2.size : Int) ≤ 256
        · refine Ev.pos hv (Ev.pos (by omega) (ih (i + 1) _ (by omega) (by omega) (by rw [List.length_append]; simp; omega) ?_))
          intro q hq
          rcases List.mem_append.1 hq with hq | hq
          · exact hok q hq
          · rw [List.mem_singleton] at hq
            subst hq
            exact ⟨hn, show t.2.size ≤ 256 by omega⟩
        · exact Ev.neg hv ih0
    · exact Ev.neg (by omega) (lb_end x p (by omega) hok _)
theorem LogfmtBack : archivistlaw10_LogfmtBack.PureS := by
  intro x hg _
  refine Ev.rounds ?_
  unfold archivistlaw10_LogfmtBack.f
  refine Ev.bind examples10_ev (Ev.pos (by trivial) (lb_l0 x (fun y hy => ?_) 40 0 [] rfl (Nat.zero_le _) (Nat.le_refl _) (fun q hq => by simp at hq)))
  have h := (hg.2 y hy).2.2
  simp [Lit.wf, IntKind.min, IntKind.max, IntKind.bits, IntKind.signed] at h
  omega
end Go.Proofs.Ytielpefbgdilaaa.Pure
