/-
  The law of those up to an end, and of the first one, for the seat Ytaehlbbjbeibfaa.
-/
import Derived.Test.YtaehlbbjbeibfaaX12
import Derived.Test.YtaehlbbjbeibfaaX20
import Derived.Test.YtaehlbbjbeibfaaRwMergeEnds
import Derived.Test.YtaehlbbjbeibfaaI
set_option linter.unusedVariables false
set_option linter.unusedSimpArgs false
namespace Go.Proofs.Ytaehlbbjbeibfaa.Pure
open Go.RowKit Go.Proofs.Ytaehlbbjbeibfaa.X Go.Proofs.Ytaehlbbjbeibfaa.B Go.Proofs.YtaehlbbjbeibfaaW.PrintWords Go.Proofs.YtaehlbbjbeibfaaW.PrintLast

theorem gI_of (x : Itm) (g : g30 x) (t : T30 140737488351232 x) : gI x := by
  obtain ⟨⟨g0, _, _⟩, _, g2, g3, g4⟩ := g
  obtain ⟨⟨_, t1, _⟩, _⟩ := t
  refine ⟨in64_wf g0, by have := t1.1; omega, ?_, fun y hy => ?_, ?_⟩
  · simp [Lit.wf, IntKind.min, IntKind.max, IntKind.bits, IntKind.signed] at g2
    exact g2
  · have h := (g3.2 y hy).2.2
    simp [Lit.wf, IntKind.min, IntKind.max, IntKind.bits, IntKind.signed] at h
    omega
  · simp [Lit.wf, IntKind.min, IntKind.max, IntKind.bits, IntKind.signed] at g4
    omega
theorem filt_at {α : Type} (P : α → Bool) (l : List α) (i : Nat) (hi : i < l.length) (h : P l[i] = true) : ((l.take i).filter P).length < (l.filter P).length ∧ (l.filter P)[((l.take i).filter P).length]? = some l[i] ∧ ((l.take (i + 1)).filter P).length = ((l.take i).filter P).length + 1 := by
  have e : l.filter P = (l.take i).filter P ++ l[i] :: (l.drop (i + 1)).filter P := by
    conv => lhs; rw [← List.take_append_drop i l, List.filter_append, List.drop_eq_getElem_cons hi, List.filter_cons_of_pos h]
  refine ⟨by rw [e]; simp, by rw [e, List.getElem?_append_right (Nat.le_refl _), Nat.sub_self]; rfl, ?_⟩
  rw [List.take_succ_eq_append_getElem hi, List.filter_append, List.length_append, List.filter_cons_of_pos h]
  simp
theorem ends_loop (asc : Bool) (e : Ent) (l : List Ent) (he : okE e) (hl : ∀ q ∈ l, okE q) (hn : l.length ≤ 10) : ∀ (d i : Nat), l.length - i = d → i ≤ l.length →
    Ev (fun k => archivistlaw16_MergeEnds.l0 k asc true l (l.filter fun x => !ahE asc e x) (!l.isEmpty) ((((l.take i).filter fun x => !ahE asc e x).length : Nat) : Int) (i : Int) e.f0 e.f1 e.f2 (firstE asc l).f0 (firstE asc l).f1 (firstE asc l).f2) true := by
  intro d
  induction d with
  | zero =>
    intro i hd hi
    refine Ev.step (fun _ => rfl) ?_
    simp only [archivistlaw16_MergeEnds.l0]
    rw [List.take_of_length_le (by omega)]
    refine Ev.neg (by omega) (Ev.pos (by first | trivial | rfl) (Ev.pos (by first | trivial | rfl) (Ev.ret ?_)))
    cases l with
    | nil => rfl
    | cons a t => simp
  | succ d ih =>
    intro i hd hi
    have hlt : i < l.length := by omega
    have hm := List.getElem_mem hlt
    have hs := firstE_spec asc l (fun h => by rw [h] at hlt; simp at hlt)
    have a1 := aheadE_ev l[i] (firstE asc l) asc (hl _ hm) (hl _ hs.1)
    have a2 := aheadE_ev e l[i] asc he (hl _ hm)
    rw [hs.2 _ hm] at a1
    refine Ev.step (fun _ => rfl) ?_
    simp only [archivistlaw16_MergeEnds.l0]
    rw [rdEnt l i hlt, w1 i (by omega)]
    refine Ev.pos (by omega) (Ev.pos (by omega) (Ev.bind a1 (Ev.neg (by simp) (Ev.bind a2 ?_))))
    cases hb : ahE asc e l[i] with
    | true =>
      have := ih (i + 1) (by omega) (by omega)
      rw [List.take_succ_eq_append_getElem hlt, List.filter_append, List.filter_cons_of_neg (by rw [hb]; simp), List.filter_nil, List.append_nil] at this
      exact Ev.pos rfl this
    | false =>
      have hp : (fun x => !ahE asc e x) l[i] = true := by show (!ahE asc e l[i]) = true; rw [hb]; rfl
      obtain ⟨f1, f2, f3⟩ := filt_at (fun x => !ahE asc e x) l i hlt hp
      have := ih (i + 1) (by omega) (by omega)
      rw [f3] at this
      generalize hq : ((l.take i).filter fun x => !ahE asc e x).length = q at f1 f2 this ⊢
      have hfl := List.length_filter_le (fun x => !ahE asc e x) l
      have s1 := sameE_ev l[i] l[i] (hl _ hm)
      rw [(ordE_stands.eq l[i] l[i]).2 rfl] at s1
      have hr : rd_T26 (l.filter fun x => !ahE asc e x) (q : Int) = l[i] := by
        rw [rdEnt _ q f1]
        rw [List.getElem?_eq_getElem f1] at f2
        exact Option.some.inj f2
      have q1 : ¬ ((q : Int) ≥ (((l.filter fun x => !ahE asc e x).length : Nat) : Int)) := by omega
      have q2 : (q : Int) < (((l.filter fun x => !ahE asc e x).length : Nat) : Int) := by omega
      have q3 : (0 : Int) ≤ (q : Int) := by omega
      rw [hr, w1 q (by omega)]
      exact Ev.neg (by simp) (Ev.neg q1 (Ev.pos q3 (Ev.pos q2 (Ev.bind s1 (Ev.pos rfl this)))))
theorem examples_ev : Ev (fun k => archivistlaw16_examples.f k) true := Ev.now _
theorem MergeEnds : archivistlaw16_MergeEnds.PureS := by
  intro x0 x1 x2 g0 g1 t0 t1
  refine Ev.rounds ?_
  obtain ⟨L, h1, h2, h3⟩ := items_ev x0 (fun y hy => gI_of y (g0.2 y hy) (t0.2 y hy)) 10 (by omega)
  obtain ⟨e, _, oke, _, hev⟩ := item_ev x1 (gI_of x1 g1 t1)
  have hfit : fitE L := ⟨by omega, fun q hq => h2 q hq⟩
  have fin := ends_loop x2 e L oke h2 h1 L.length 0 rfl (Nat.zero_le _)
  unfold archivistlaw16_MergeEnds.f
  exact Ev.bind examples_ev (Ev.pos rfl (Ev.bind h3 (Ev.bind hev (Ev.bind (upto_ev x2 e L oke h2 (by omega)) (Ev.bind (first_ev x2 L hfit) fin)))))
end Go.Proofs.Ytaehlbbjbeibfaa.Pure
