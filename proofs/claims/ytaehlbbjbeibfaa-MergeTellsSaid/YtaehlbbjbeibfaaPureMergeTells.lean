/-
  The law of what is merged, held against the document's answer, for the seat Ytaehlbbjbeibfaa.
-/
import Derived.Test.YtaehlbbjbeibfaaX13
import Derived.Test.YtaehlbbjbeibfaaX19
import Derived.Test.YtaehlbbjbeibfaaRwMergeTells
import Derived.Test.YtaehlbbjbeibfaaI
import Derived.Test.YtaehlbbjbeibfaaIR
import Derived.Test.YtaehlbbjbeibfaaF
set_option linter.unusedVariables false
set_option linter.unusedSimpArgs false
namespace Go.Proofs.Ytaehlbbjbeibfaa.Pure
open Go.RowKit Go.Proofs.Ytaehlbbjbeibfaa.X Go.Proofs.Ytaehlbbjbeibfaa.B Go.Proofs.YtaehlbbjbeibfaaW.PrintWords Go.Proofs.YtaehlbbjbeibfaaW.PrintLast

theorem gI_of (x : Itm) (g : g30 x) (t : T30 140737488351232 x) : gI x := by
  obtain ⟨⟨g0, _, _⟩, _, g2, g3, g4⟩ := g
  obtain ⟨⟨_, t1, _⟩, _⟩ := t
  refine ⟨in64_wf g0, by have := t1.1; omega, ?_, fun y hy => ?_, ?_⟩
  · simp [Lit.wf, IntKind.min, IntKind.max, IntKind.bits, IntKind.signed] at g2
    exact g2
  · have h := (g3.2 y hy).2.2
    simp [Lit.wf, IntKind.min, IntKind.max, IntKind.bits, IntKind.signed] at h
    omega
  · simp [Lit.wf, IntKind.min, IntKind.max, IntKind.bits, IntKind.signed] at g4
    omega
/-- the list that is drawn: in its order, or as it is -/
theorem list_ev (x : List Itm) (hg : ∀ y ∈ x, gI y) (asc really : Bool) : ∃ L M : List Ent, M.length ≤ 6 ∧ (∀ q ∈ M, okE q) ∧ Ev (fun k => archivistlaw16_items.f k x 6) L ∧ Ev (fun k => archivistlaw16_sorted.f k L asc really) M := by
  obtain ⟨L, h1, h2, h3⟩ := items_ev x hg 6 (by omega)
  cases really with
  | true =>
    obtain ⟨M, m1, _, m3⟩ := sorted_ev asc L (by omega) h2
    exact ⟨L, M, by rw [m1.length_eq]; omega, fun q hq => h2 q (m1.mem_iff.1 hq), h3, m3⟩
  | false =>
    refine ⟨L, L, h1, h2, h3, ?_⟩
    unfold archivistlaw16_sorted.f
    exact Ev.neg (by simp) (Ev.now _)
theorem flat6 {ls : List (List Ent)} (h : ∀ l ∈ ls, l.length ≤ 6) : ls.flatten.length ≤ ls.length * 6 := by
  induction ls with
  | nil => simp
  | cons a t ih =>
    have h1 := h a List.mem_cons_self
    have h2 := ih (fun l hl => h l (List.mem_cons_of_mem _ hl))
    rw [List.flatten_cons, List.length_append, List.length_cons]
    omega
theorem rdItms (x : List (List Itm)) (i : Nat) (h : i < x.length) : rd_L15 x (i : Int) = x[i] := by simp [rd_L15, h]
theorem tells_end (x0 : List (List Itm)) (asc really : Bool) (most : Int) (e : Itm) (he : gI e) (ls : List (List Ent)) (i : Int) (h1 : ls.length ≤ 4) (h2 : ∀ l ∈ ls, l.length ≤ 6 ∧ ∀ q ∈ l, okE q) :
    Ev (fun k => archivistlaw16_MergeTells.j2 k x0 asc most really true ls (ls.map (List.map toE)) ls.flatten i false e.f0.f0 e.f0.f1 e.f0.f2 e.f1 e.f2 e.f3 e.f4) true := by
  have hfl := flat6 (fun l hl => (h2 l hl).1)
  have hok : ∀ l ∈ ls, ∀ q ∈ l, okE q := fun l hl => (h2 l hl).2
  have hokf : ∀ q ∈ ls.flatten, okE q := fun q hq => by
    obtain ⟨l, hl, h⟩ := List.mem_flatten.1 hq
    exact hok l hl q h
  have hfit : fitL ls := fitL_of (by omega) (fun l hl => by have := (h2 l hl).1; omega) hok
  have hfe : fitE ls.flatten := ⟨by omega, hokf⟩
  obtain ⟨E, _, okE_, _, hev⟩ := item_ev e he
  have e1 := allF_ev asc most ls hfit
  have e2 := refAll_ev asc most ls (by omega) (by omega) hok
  have e3 := first_ev asc ls.flatten hfe
  have e4 := refEntries_ev ls.flatten (by omega) hokf
  have e5 := refFirst_ev asc ls.flatten (by omega) hokf
  have hA : ∀ q ∈ (allE asc most ls).1, okE q := fun q hq => by
    unfold allE at hq
    split at hq
    · exact hokf q ((canon_mem (totE asc) _ q).1 (List.mem_of_mem_take hq))
    · simp at hq
  have hAl : (allE asc most ls).1.length ≤ 1000 := by
    unfold allE
    split
    · have := canon_len (ah := ahE asc) ls.flatten
      simp only [List.length_take]
      omega
    · simp
  have e6 := sameEntries_ev (allE asc most ls).1 hAl hA
  have hF : okE (firstE asc ls.flatten) := by
    by_cases h : ls.flatten = []
    · rw [h]
      exact Nat.zero_le _
    · exact hokf _ (firstE_spec asc _ h).1
  have e7 := sameEntry_ev (firstE asc ls.flatten) hF
  have e8 := upto_ev asc E ls.flatten okE_ hokf (by omega)
  have e9 := refEntry_ev E okE_
  have e10 := refUpto_ev asc E ls.flatten okE_ (by omega)
  have hfm := List.length_filter_le (fun x => !ahE asc E x) ls.flatten
  have e11 := sameEntries_ev (ls.flatten.filter fun x => !ahE asc E x) (by omega) (fun q hq => hokf q (List.mem_filter.1 hq).1)
  refine Ev.step (fun _ => rfl) ?_
  simp only [archivistlaw16_MergeTells.j2]
  exact Ev.neg (by simp) (Ev.bind e1 (Ev.bind e2 (Ev.bind e3 (Ev.bind e4 (Ev.bind e5 (Ev.bind hev (Ev.bind e6 (Ev.bind e7 (Ev.bind e8 (Ev.bind e9 (Ev.bind e4 (Ev.bind e10 (Ev.bind e11 (Ev.pos (by first | trivial | rfl) (Ev.pos (by first | trivial | rfl) (Ev.pos (beq_self_eq_true _) (Ev.pos (by first | trivial | rfl) (Ev.pos (beq_self_eq_true _) (Ev.now _)))))))))))))))))))
theorem tells_loop (x0 : List (List Itm)) (hg : ∀ y ∈ x0, ∀ z ∈ y, gI z) (asc really : Bool) (most : Int) (e : Itm) (he : gI e) : ∀ (d i : Nat) (ls : List (List Ent)), 4 - i = d → i ≤ 4 → ls.length = i → (∀ l ∈ ls, l.length ≤ 6 ∧ ∀ q ∈ l, okE q) →
    Ev (fun k => archivistlaw16_MergeTells.l0 k x0 asc most really true ls (ls.map (List.map toE)) ls.flatten (i : Int) e.f0.f0 e.f0.f1 e.f0.f2 e.f1 e.f2 e.f3 e.f4) true := by
  intro d
  induction d with
  | zero =>
    intro i ls hd hi hl h2
    have fin := tells_end x0 asc really most e he ls (i : Int) (by omega) h2
    refine Ev.step (fun _ => rfl) ?_
    simp only [archivistlaw16_MergeTells.l0]
    rw [show decide ((i : Int) < 4) = false from decide_eq_false (by omega)]
    by_cases h : (i : Int) < (x0.length : Int)
    · exact Ev.pos h fin
    · exact Ev.neg h fin
  | succ d ih =>
    intro i ls hd hi hl h2
    refine Ev.step (fun _ => rfl) ?_
    simp only [archivistlaw16_MergeTells.l0]
    by_cases h : i < x0.length
    · rw [show decide ((i : Int) < 4) = true from decide_eq_true (by omega)]
      obtain ⟨L, M, m1, m2, m3, m4⟩ := list_ev x0[i] (hg _ (List.getElem_mem h)) asc really
      have hfl := flat6 (fun l hl => (h2 l hl).1)
      have nx := ih (i + 1) (ls ++ [M]) (by omega) (by omega) (by rw [List.length_append, List.length_singleton]; omega) (fun l hl => by
        rcases List.mem_append.1 hl with hl | hl
        · exact h2 l hl
        · rw [List.mem_singleton] at hl
          subst hl
          exact ⟨m1, m2⟩)
      rw [List.map_append, List.flatten_append, List.map_singleton, List.flatten_singleton] at nx
      refine Ev.pos (by omega) (Ev.step (fun _ => rfl) ?_)
      simp only [archivistlaw16_MergeTells.j2]
      rw [rdItms x0 i h, w1 i (by omega)]
      refine Ev.pos (by first | trivial | rfl) (Ev.pos (by omega) (Ev.pos (by omega) (Ev.bind m3 (Ev.bind m4 (Ev.pos (by omega) (Ev.bind (refEntries_ev M (by omega) m2) (Ev.pos (by rw [List.length_map]; omega) (Ev.pos (by omega) ?_))))))))
      exact nx
    · exact Ev.neg (by omega) (tells_end x0 asc really most e he ls (i : Int) (by omega) h2)
theorem examples_ev : Ev (fun k => archivistlaw16_examples.f k) true := Ev.now _
theorem MergeTells : archivistlaw16_MergeTells.PureS := by
  intro x0 x1 x2 x3 x4 x5 g0 g1 g2 t0 t1
  refine Ev.rounds ?_
  have he := gI_of x1 g1 t1
  have hg : ∀ y ∈ x0, ∀ z ∈ y, gI z := fun y hy z hz => gI_of z ((g0.2 y hy).2 z hz) ((t0.2 y hy).2 z hz)
  have fin := fun most => tells_loop x0 hg x2 x4 most x1 he 4 0 [] rfl (by omega) rfl (fun l hl => by simp at hl)
  unfold archivistlaw16_MergeTells.f
  refine Ev.bind examples_ev (Ev.pos rfl ?_)
  cases x5 with
  | true =>
    refine Ev.pos rfl (Ev.step (fun _ => rfl) ?_)
    simp only [archivistlaw16_MergeTells.j0]
    exact fin _
  | false =>
    refine Ev.neg (by simp) (Ev.step (fun _ => rfl) ?_)
    simp only [archivistlaw16_MergeTells.j0]
    exact fin _
end Go.Proofs.Ytaehlbbjbeibfaa.Pure
