/-
  The law of what was merged already, for the seat Ytaehlbbjbeibfaa.
-/
import Derived.Test.YtaehlbbjbeibfaaX13
import Derived.Test.YtaehlbbjbeibfaaX62
import Derived.Test.YtaehlbbjbeibfaaRwMergeAgain
import Derived.Test.YtaehlbbjbeibfaaI
import Derived.Test.YtaehlbbjbeibfaaIR
set_option linter.unusedVariables false
set_option linter.unusedSimpArgs false
namespace Go.Proofs.Ytaehlbbjbeibfaa.Pure
open Go.RowKit Go.Proofs.Ytaehlbbjbeibfaa.X Go.Proofs.Ytaehlbbjbeibfaa.B Go.Proofs.YtaehlbbjbeibfaaW.PrintWords Go.Proofs.YtaehlbbjbeibfaaW.PrintLast

theorem gI_of (x : Itm) (g : g30 x) (t : T30 140737488351232 x) : gI x := by
  obtain ⟨⟨g0, _, _⟩, _, g2, g3, g4⟩ := g
  obtain ⟨⟨_, t1, _⟩, _⟩ := t
  refine ⟨in64_wf g0, by have := t1.1; omega, ?_, fun y hy => ?_, ?_⟩
  · simp [Lit.wf, IntKind.min, IntKind.max, IntKind.bits, IntKind.signed] at g2
    exact g2
  · have h := (g3.2 y hy).2.2
    simp [Lit.wf, IntKind.min, IntKind.max, IntKind.bits, IntKind.signed] at h
    omega
  · simp [Lit.wf, IntKind.min, IntKind.max, IntKind.bits, IntKind.signed] at g4
    omega
theorem same_loop (x7 x19 : Bool) (x20 C : List Ent) (x21 : Bool) (hC : ∀ q ∈ C, okE q) (hn : C.length ≤ 100) (h7 : x7 = true) (h19 : x19 = decide ((C.length : Int) < 2)) (h20 : x20 = []) (h21 : x21 = true) : ∀ (d i : Nat), C.length - i = d → i ≤ C.length →
    Ev (fun k => archivistlaw16_MergeAgain.l1 k x7 C C C x19 x20 x21 (i : Int)) true := by
  subst h7 h19 h20 h21
  intro d
  induction d with
  | zero =>
    intro i hd hi
    refine Ev.step (fun _ => rfl) ?_
    simp only [archivistlaw16_MergeAgain.l1]
    exact Ev.neg (by omega) (Ev.pos (by first | trivial | rfl) (Ev.pos (beq_self_eq_true _) (Ev.pos (by first | trivial | rfl) (Ev.now _))))
  | succ d ih =>
    intro i hd hi
    have hlt : i < C.length := by omega
    have s1 := sameE_ev C[i] C[i] (hC _ (List.getElem_mem hlt))
    rw [(ordE_stands.eq C[i] C[i]).2 rfl] at s1
    refine Ev.step (fun _ => rfl) ?_
    simp only [archivistlaw16_MergeAgain.l1]
    rw [rdEnt C i hlt, w1 i (by omega)]
    exact Ev.pos (by omega) (Ev.pos (by omega) (Ev.pos (by omega) (Ev.bind s1 (Ev.pos rfl (Ev.pos (by omega) (Ev.bind s1 (Ev.pos rfl (ih (i + 1) (by omega) (by omega)))))))))
theorem turned_all (asc : Bool) (a C : List Ent) (ha : SrtB (ahE asc) a) (hC : Up (ahE asc) C) : (allE asc 99 [a, C.reverse]).2 = decide ((C.length : Int) < 2) := by
  have h1 := (sortedB_srt asc a).2 ha
  have h2 : sortedB asc C.reverse = decide ((C.length : Int) < 2) := by
    match C, hC with
    | [], _ => rfl
    | [x], _ => rfl
    | x :: y :: t, hC =>
      rw [show decide (((x :: y :: t).length : Int) < 2) = false from decide_eq_false (by simp only [List.length_cons]; omega)]
      cases hs : sortedB asc (x :: y :: t).reverse with
      | false => rfl
      | true =>
        have h3 := (sortedB_srt asc _).1 hs
        unfold SrtB at h3
        rw [List.pairwise_reverse] at h3
        have h4 := (List.pairwise_cons.1 hC).1 y List.mem_cons_self
        have h5 := (List.pairwise_cons.1 h3).1 y List.mem_cons_self
        rw [h4] at h5
        cases h5
  unfold allE
  rw [List.all_cons, List.all_cons, List.all_nil, h1, h2, Bool.true_and, Bool.and_true]
  split
  · rename_i h
    exact h.symm
  · rename_i h
    exact (Bool.eq_false_iff.2 h).symm
theorem back_loop (asc : Bool) (a C : List Ent) (ha : SrtB (ahE asc) a) (hC : Up (ahE asc) C) (hok : ∀ q ∈ C, okE q) (hoka : ∀ q ∈ a, okE q) (hn : C.length ≤ 100) (hna : a.length ≤ 100) : ∀ (j : Nat), j ≤ C.length →
    Ev (fun k => archivistlaw16_MergeAgain.l0 k asc true a C true C true C true (C.drop j).reverse ((j : Int) - 1)) true := by
  intro j
  induction j with
  | zero =>
    intro hj
    have e1 := allF_ev asc 99 [a, C.reverse] (fitL_of (by simp) (fun l hl => by
      rcases List.mem_cons.1 hl with rfl | hl
      · omega
      · rw [List.mem_singleton] at hl; subst hl; rw [List.length_reverse]; omega) (fun l hl e he => by
      rcases List.mem_cons.1 hl with rfl | hl
      · exact hoka e he
      · rw [List.mem_singleton] at hl; subst hl; exact hok e (List.mem_reverse.1 he)))
    have e2 := allF_ev asc 99 [] (fitL_of (by simp) (fun l hl => by simp at hl) (fun l hl => by simp at hl))
    have fin := same_loop true (allE asc 99 [a, C.reverse]).2 (allE asc 99 []).1 C (allE asc 99 []).2 hok hn rfl (turned_all asc a C ha hC) rfl rfl C.length 0 rfl (Nat.zero_le _)
    refine Ev.step (fun _ => rfl) ?_
    simp only [archivistlaw16_MergeAgain.l0]
    rw [List.drop_zero]
    refine Ev.neg (by omega) (Ev.bind e1 (Ev.bind e2 (Ev.pos (by first | trivial | rfl) (Ev.pos (by first | trivial | rfl) (Ev.pos (by first | trivial | rfl) (Ev.pos (by first | trivial | rfl) ?_))))))
    rw [bne_self_eq_false]
    refine Ev.step (fun _ => rfl) ?_
    simp only [archivistlaw16_MergeAgain.j1]
    exact Ev.neg (by simp) fin
  | succ j ih =>
    intro hj
    have hlt : j < C.length := by omega
    have ih2 := ih (by omega)
    rw [List.drop_eq_getElem_cons hlt, List.reverse_cons] at ih2
    have e : ((j + 1 : Nat) : Int) - 1 = (j : Int) := by omega
    have hw : wrap64 ((j : Int) - 1) = (j : Int) - 1 := by rw [wrap_in] <;> omega
    rw [e]
    refine Ev.step (fun _ => rfl) ?_
    simp only [archivistlaw16_MergeAgain.l0]
    rw [rdEnt C j hlt, hw]
    exact Ev.pos (by omega) (Ev.pos (by omega) (Ev.pos (by omega) (Ev.pos (by rw [List.length_reverse, List.length_drop]; omega) ih2)))
theorem examples_ev : Ev (fun k => archivistlaw16_examples.f k) true := Ev.now _
theorem MergeAgain : archivistlaw16_MergeAgain.PureS := by
  intro x0 x1 x3 g0 g1 t0 t1
  refine Ev.rounds ?_
  obtain ⟨A, a1, a2, a3⟩ := items_ev x0 (fun y hy => gI_of y (g0.2 y hy) (t0.2 y hy)) 8 (by omega)
  obtain ⟨B, b1, b2, b3⟩ := items_ev x1 (fun y hy => gI_of y (g1.2 y hy) (t1.2 y hy)) 8 (by omega)
  obtain ⟨a, c1, c2, c3⟩ := sorted_ev x3 A (by omega) a2
  obtain ⟨b, d1, d2, d3⟩ := sorted_ev x3 B (by omega) b2
  have hal : a.length ≤ 8 := by rw [c1.length_eq]; exact a1
  have hbl : b.length ≤ 8 := by rw [d1.length_eq]; exact b1
  have hoka : ∀ e ∈ a, okE e := fun e he => a2 e (c1.mem_iff.1 he)
  have hokb : ∀ e ∈ b, okE e := fun e he => b2 e (d1.mem_iff.1 he)
  clear a1 b1 a2 b2 c1 d1
  have O := totE x3
  have hup := canon_up O [a, b].flatten
  have hCl := canon_len (ah := ahE x3) [a, b].flatten
  have hCm : ∀ z, z ∈ canon (ahE x3) [a, b].flatten ↔ z ∈ a ∨ z ∈ b := fun z => by
    rw [canon_mem O, List.flatten_cons, List.mem_append, List.flatten_cons, List.flatten_nil, List.append_nil]
  have hfl : [a, b].flatten.length ≤ 16 := by rw [List.flatten_cons, List.flatten_cons, List.flatten_nil, List.append_nil, List.length_append]; omega
  have hs1 : ∀ l ∈ [a, b], SrtB (ahE x3) l := fun l hl => by
    rcases List.mem_cons.1 hl with rfl | hl
    · exact c2
    · rw [List.mem_singleton] at hl; rw [hl]; exact d2
  have e1 := allF_ev x3 99 [a, b] (fitL_of (by simp) (fun l hl => by
    rcases List.mem_cons.1 hl with rfl | hl
    · omega
    · rw [List.mem_singleton] at hl; subst hl; omega) (fun l hl => by
    rcases List.mem_cons.1 hl with rfl | hl
    · exact hoka
    · rw [List.mem_singleton] at hl; subst hl; exact hokb))
  rw [allE_sorted hs1] at e1
  generalize canon (ahE x3) [a, b].flatten = C at e1 hup hCl hCm
  have hn : C.length ≤ 16 := by omega
  have hokC : ∀ e ∈ C, okE e := fun e he => by
    rcases (hCm e).1 he with h | h
    · exact hoka e h
    · exact hokb e h
  have hsC : SrtB (ahE x3) C := hup.imp (fun h => ahE_asym x3 _ _ h)
  rw [List.take_of_length_le (show C.length ≤ (99 : Int).toNat from (by omega : C.length ≤ 99))] at e1
  have hs2 : ∀ l ∈ [C], SrtB (ahE x3) l := fun l hl => by rw [List.mem_singleton] at hl; rw [hl]; exact hsC
  have e2 := allF_ev x3 99 [C] (fitL_of (by simp) (fun l hl => by rw [List.mem_singleton] at hl; rw [hl]; omega) (fun l hl => by rw [List.mem_singleton] at hl; rw [hl]; exact hokC))
  rw [allE_sorted hs2, canon_of O hup (fun z => by simp), List.take_of_length_le (show C.length ≤ (99 : Int).toNat from (by omega : C.length ≤ 99))] at e2
  have four : ∀ (Q : List Ent → Prop), Q C → Q a → Q b → ∀ l ∈ [C, a, b, C], Q l := fun Q q1 q2 q3 l hl => by
    rcases List.mem_cons.1 hl with rfl | hl
    · exact q1
    · rcases List.mem_cons.1 hl with rfl | hl
      · exact q2
      · rcases List.mem_cons.1 hl with rfl | hl
        · exact q3
        · rw [List.mem_singleton] at hl; rw [hl]; exact q1
  have e3 := allF_ev x3 99 [C, a, b, C] (fitL_of (by simp) (four (fun l => l.length ≤ 100) (by omega) (by omega) (by omega)) (four (fun l => ∀ e ∈ l, okE e) hokC hoka hokb))
  rw [allE_sorted (four _ hsC c2 d2), canon_of O hup (fun z => by
    rw [List.flatten_cons, List.mem_append, List.flatten_cons, List.mem_append, List.flatten_cons, List.mem_append, List.flatten_cons, List.flatten_nil, List.append_nil]
    constructor
    · exact .inl
    · rintro (h | h | h | h)
      · exact h
      · exact (hCm z).2 (.inl h)
      · exact (hCm z).2 (.inr h)
      · exact h), List.take_of_length_le (show C.length ≤ (99 : Int).toNat from (by omega : C.length ≤ 99))] at e3
  have fin := back_loop x3 a C c2 hup hokC hoka (by omega) (by omega) C.length (Nat.le_refl _)
  rw [List.drop_length, List.reverse_nil] at fin
  have hw : wrap64 ((C.length : Int) - 1) = (C.length : Int) - 1 := by rw [wrap_in] <;> omega
  rw [← hw] at fin
  unfold archivistlaw16_MergeAgain.f
  exact Ev.bind examples_ev (Ev.pos rfl (Ev.bind a3 (Ev.bind c3 (Ev.bind b3 (Ev.bind d3 (Ev.bind e1 (Ev.bind e2 (Ev.bind e3 fin))))))))
end Go.Proofs.Ytaehlbbjbeibfaa.Pure
