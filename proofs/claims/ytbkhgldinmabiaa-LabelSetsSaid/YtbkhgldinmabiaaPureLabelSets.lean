/-
  The law of sets of labels, for the seat Ytbkhgldinmabiaa.
-/
import Derived.Test.YtbkhgldinmabiaaX28
import Derived.Test.YtbkhgldinmabiaaRwLabelSets
import Derived.Test.YtbkhgldinmabiaaT
set_option linter.unusedVariables false
set_option linter.unusedSimpArgs false
namespace Go.Proofs.Ytbkhgldinmabiaa.Pure
open Go.RowKit Go.Proofs.Ytbkhgldinmabiaa.X Go.Proofs.Ytbkhgldinmabiaa.B Go.Proofs.YtbkhgldinmabiaaW.PrintWords Go.Proofs.YtbkhgldinmabiaaW.PrintLast

theorem ls_l3 (L s : List Lab) (hs : s = ofP [] L) (hL : L.length ≤ 16) : ∀ (i : Nat) (acc : List Lab), i ≤ s.length → acc = (s.drop i).reverse →
    Ev (fun k => archivistlaw06_LabelSets.l3 k true s s acc ((i : Int) - 1)) true := by
  have hsl : s.length ≤ 16 := by have := of_len L; rw [← hs] at this; omega
  intro i
  induction i with
  | zero =>
    intro acc hi ha
    rw [List.drop_zero] at ha
    have e1 := same_ev s s (by omega)
    rw [decide_eq_true rfl] at e1
    have e2 := of_ev acc (by rw [ha, List.length_reverse]; omega)
    rw [ha, hs, of_back, ← hs] at e2
    have e3 := with_ev s s (by omega) (by omega)
    rw [hs, of_twice, ← hs] at e3
    rw [ha]
    refine Ev.step (fun _ => rfl) ?_
    simp only [archivistlaw06_LabelSets.l3]
    exact Ev.neg (by omega) (Ev.pos (by trivial) (Ev.bind e1 (Ev.pos rfl (Ev.bind e2 (Ev.bind e1 (Ev.pos rfl (Ev.bind e3 (Ev.bind e1 (Ev.now _)))))))))
  | succ i ih =>
    intro acc hi ha
    have hlt : i < s.length := by omega
    have hal : acc.length ≤ 16 := by rw [ha, List.length_reverse, List.length_drop]; omega
    have ih' := ih (acc ++ [s[i]]) (by omega) (by rw [List.drop_eq_getElem_cons hlt, List.reverse_cons, ha])
    have e0 : (((i + 1 : Nat) : Int) - 1) = (i : Int) := by omega
    rw [e0]
    refine Ev.step (fun _ => rfl) ?_
    simp only [archivistlaw06_LabelSets.l3]
    rw [rdLab s i hlt, show wrap64 ((i : Int) - 1) = (i : Int) - 1 by rw [wrap_in] <;> omega]
    exact Ev.pos (by omega) (Ev.pos (by omega) (Ev.pos (by omega) (Ev.pos (by omega) ih')))
theorem ls_last (L s : List Lab) (hs : s = ofP [] L) (hL : L.length ≤ 16) : Ev (fun k => archivistlaw06_LabelSets.l3 k true s s [] (wrap64 ((s.length : Int) - 1))) true := by
  have hsl : s.length ≤ 16 := by have := of_len L; rw [← hs] at this; omega
  rw [show wrap64 ((s.length : Int) - 1) = (s.length : Int) - 1 by rw [wrap_in] <;> omega]
  exact ls_l3 L s hs hL s.length [] (Nat.le_refl _) (by rw [List.drop_length]; rfl)
theorem ls_get (L : List Lab) (i : Nat) (hi : i < L.length) : ∃ v, getL L.reverse L[i].f0 = some v ∧ ((∀ (j : Nat) (h : j < L.length), i < j → L[j].f0 ≠ L[i].f0) → v = L[i].f1) := by
  have e : L = L.take i ++ L[i] :: L.drop (i + 1) := by rw [← List.drop_eq_getElem_cons hi, List.take_append_drop]
  have e2 : L.reverse = (L.drop (i + 1)).reverse ++ (L[i] :: (L.take i).reverse) := by
    rw [show L.reverse = (L.take i ++ L[i] :: L.drop (i + 1)).reverse by rw [← e], List.reverse_append, List.reverse_cons, List.append_assoc]
    rfl
  rw [e2, getL_append, getL_cons, if_pos rfl]
  cases hg : getL (L.drop (i + 1)).reverse L[i].f0 with
  | none => exact ⟨_, rfl, fun _ => rfl⟩
  | some v =>
    refine ⟨v, rfl, fun h => ?_⟩
    obtain ⟨z, hz, hz0, _⟩ := getL_some hg
    rw [List.mem_reverse] at hz
    obtain ⟨j, hj, rfl⟩ := List.mem_iff_getElem.1 hz
    rw [List.length_drop] at hj
    rw [List.getElem_drop] at hz0
    exact absurd hz0 (h (i + 1 + j) (by omega) (by omega))
mutual
theorem ls_l1 (L s : List Lab) (hs : s = ofP [] L) (hL : L.length ≤ 16) : ∀ (d i : Nat), L.length - i = d → i ≤ L.length →
    Ev (fun k => archivistlaw06_LabelSets.l1 k true L s s (i : Int)) true
  | 0, i, hd, hi => by
    refine Ev.step (fun _ => rfl) ?_
    simp only [archivistlaw06_LabelSets.l1]
    exact Ev.neg (by omega) (ls_last L s hs hL)
  | d + 1, i, hd, hi => by
    refine Ev.step (fun _ => rfl) ?_
    simp only [archivistlaw06_LabelSets.l1]
    rw [w1 i (by omega)]
    exact Ev.pos (by omega) (ls_l2 L s hs hL i (by omega) d (by omega) (L.length - (i + 1)) (i + 1) true (by omega) (by omega) (by omega) (fun _ j h h1 h2 => by omega))
  termination_by d => (d, 0)
theorem ls_l2 (L s : List Lab) (hs : s = ofP [] L) (hL : L.length ≤ 16) (i : Nat) (hi : i < L.length) (d : Nat) (hd : L.length - (i + 1) = d) : ∀ (e q : Nat) (last : Bool), L.length - q = e → i < q → q ≤ L.length → (last = true → ∀ (j : Nat) (h : j < L.length), i < j → j < q → L[j].f0 ≠ L[i].f0) →
    Ev (fun k => archivistlaw06_LabelSets.l2 k true L s s (i : Int) last (q : Int)) true
  | 0, q, last, he, hiq, hq, hl => by
    have next := ls_l1 L s hs hL d (i + 1) hd (by omega)
    obtain ⟨v, hv, hlast⟩ := ls_get L i hi
    have hsl : s.length ≤ 16 := by have := of_len L; rw [← hs] at this; omega
    have g := getSet_ev s (by omega) L[i].f0
    have n := name_ev L[i].f0
    rw [hs, of_get, hv, ← hs] at g
    refine Ev.step (fun _ => rfl) ?_
    simp only [archivistlaw06_LabelSets.l2]
    rw [rdLab L i hi, w1 i (by omega)]
    refine Ev.neg (by omega) (Ev.pos (by omega) (Ev.pos (by omega) (Ev.bind g (Ev.bind n ?_))))
    by_cases hn : nameP (by_ L[i].f0) = true
    · rw [if_pos hn, hn]
      refine Ev.neg (by simp [getR]) (Ev.pos rfl ?_)
      by_cases hla : last = true
      · have : v = L[i].f1 := hlast fun j h hj => hl hla j h hj (by omega)
        exact Ev.pos hla (Ev.pos (ba_eq.2 this) next)
      · exact Ev.neg hla next
    · rw [if_neg hn, show nameP (by_ L[i].f0) = false by simpa using hn]
      exact Ev.neg (by simp [getR]) (Ev.neg (by simp [getR]) next)
  | e + 1, q, last, he, hiq, hq, hl => by
    have hlt : q < L.length := by omega
    refine Ev.step (fun _ => rfl) ?_
    simp only [archivistlaw06_LabelSets.l2]
    rw [rdLab L i hi, rdLab L q hlt, w1 q (by omega)]
    refine Ev.pos (by omega) ?_
    by_cases hla : last = true
    · refine Ev.pos hla (Ev.pos (by omega) (Ev.pos (by omega) (Ev.pos (by omega) (ls_l2 L s hs hL i hi d hd e (q + 1) _ (by omega) (by omega) (by omega) ?_))))
      intro hne j h hj hjq
      by_cases hjq2 : j = q
      · subst hjq2
        rw [bne_iff_ne] at hne
        exact fun h => hne (ba_eq.2 h)
      · exact hl hla j h hj (by omega)
    · exact Ev.neg hla (ls_l2 L s hs hL i hi d hd e (q + 1) false (by omega) (by omega) (by omega) (fun h => by cases h))
  termination_by e => (d, e + 1)
end
theorem ls_l0 (L s : List Lab) (hs : s = ofP [] L) (hL : L.length ≤ 16) : ∀ (d i : Nat), s.length - i = d → i ≤ s.length →
    Ev (fun k => archivistlaw06_LabelSets.l0 k true L s s (i : Int)) true := by
  have hsl : s.length ≤ 16 := by have := of_len L; rw [← hs] at this; omega
  have hr : Rise s := by rw [hs]; exact of_rise L
  have hna : ∀ p ∈ s, nameP (by_ p.f0) = true := by rw [hs]; exact of_names L
  intro d
  induction d with
  | zero =>
    intro i hd hi
    refine Ev.step (fun _ => rfl) ?_
    simp only [archivistlaw06_LabelSets.l0]
    exact Ev.neg (by omega) (ls_l1 L s hs hL L.length 0 rfl (Nat.zero_le _))
  | succ d ih =>
    intro i hd hi
    have hlt : i < s.length := by omega
    have n := name_ev s[i].f0
    rw [hna s[i] (List.getElem_mem hlt)] at n
    have ih' := ih (i + 1) (by omega) (by omega)
    refine Ev.step (fun _ => rfl) ?_
    simp only [archivistlaw06_LabelSets.l0]
    refine Ev.pos (by omega) ?_
    by_cases h0 : (i : Int) > 0
    · obtain ⟨j, rfl⟩ : ∃ j, i = j + 1 := ⟨i - 1, by omega⟩
      rw [rdLab s (j + 1) hlt, w1 (j + 1) (by omega), show wrap64 (((j + 1 : Nat) : Int) - 1) = (j : Int) by rw [wrap_in] <;> omega, rdLab s j (by omega)]
      refine Ev.pos h0 (Ev.pos (by omega) (Ev.pos (by omega) (Ev.pos (by omega) (Ev.pos ?_ (Ev.bind n (Ev.pos rfl ih'))))))
      rw [toList_by, toList_by]
      exact (List.pairwise_iff_getElem.1 hr) j (j + 1) (by omega) hlt (by omega)
    · rw [rdLab s i hlt, w1 i (by omega)]
      exact Ev.neg h0 (Ev.pos (by omega) (Ev.bind n (Ev.pos rfl ih')))
theorem LabelSets : archivistlaw06_LabelSets.PureS := by
  intro x hg _
  refine Ev.rounds ?_
  unfold archivistlaw06_LabelSets.f
  obtain ⟨L, hL, _, ht⟩ := tags_ev x (fun y hy => (hg.2 y hy).2.2) 16 (by omega)
  have ho := of_ev L (by omega)
  have hl := of_len L
  have ho2 := of_ev (ofP [] L) (by omega)
  rw [of_of] at ho2
  exact Ev.bind labelExamples_ev (Ev.pos (by trivial) (Ev.bind ht (Ev.bind ho (Ev.bind ho2 (ls_l0 L _ rfl hL _ 0 rfl (Nat.zero_le _))))))
end Go.Proofs.Ytbkhgldinmabiaa.Pure
