/-
  The law of entries that stand one behind the other, for the seat YtjmbddgbojcpmaaDoor.
-/
import Derived.Test.YtjmbddgbojcpmaaDoorX19
import Derived.Test.YtjmbddgbojcpmaaDoorRwEntryPuts
import Derived.Test.YtjmbddgbojcpmaaDoorJ
set_option linter.unusedVariables false
set_option linter.unusedSimpArgs false
namespace Go.Proofs.YtjmbddgbojcpmaaDoor.Pure
open Go.RowKit Go.Proofs.YtjmbddgbojcpmaaDoor.X Go.Proofs.YtjmbddgbojcpmaaDoor.B Go.Proofs.YtjmbddgbojcpmaaDoorW.PrintWords Go.Proofs.YtjmbddgbojcpmaaDoorW.PrintLast

theorem gI_of (x : Itm) (g : g29 x) (t : T29 140737488351232 x) : gI x := by
  obtain ⟨⟨g0, _, _⟩, _, g2, g3, g4⟩ := g
  obtain ⟨⟨_, t1, _⟩, _⟩ := t
  refine ⟨in64_wf g0, by have := t1.1; omega, ?_, fun y hy => ?_, ?_⟩
  · simp [Lit.wf, IntKind.min, IntKind.max, IntKind.bits, IntKind.signed] at g2
    exact g2
  · have h := (g3.2 y hy).2.2
    simp [Lit.wf, IntKind.min, IntKind.max, IntKind.bits, IntKind.signed] at h
    omega
  · simp [Lit.wf, IntKind.min, IntKind.max, IntKind.bits, IntKind.signed] at g4
    omega
theorem rdItm (l : List Itm) (i : Nat) (h : i < l.length) : rd_T29 l (i : Int) = l[i] := by simp [rd_T29, h]
theorem flat_put (l : List Ent) (h : ∀ q ∈ l, smE q) : (l.flatMap putE).length ≤ l.length * 20000 := by
  induction l with
  | nil => simp
  | cons e l ih =>
    have h1 := ih (fun q hq => h q (by simp [hq]))
    have h2 := putE_len (h e (by simp)).1 (smE_right (h e (by simp)))
    rw [List.flatMap_cons, List.length_append, List.length_cons, Nat.add_mul]
    omega
theorem ep_l1 (l : List Ent) (hl : l.length ≤ 8) (hok : ∀ q ∈ l, smE q) : ∀ (d i : Nat) (s : ByteArray), l.length - i = d → i ≤ l.length → by_ s = (l.drop i).flatMap putE →
    Ev (fun k => archivistlaw13_EntryPuts.l1 k true l s (i : Int)) true := by
  intro d
  induction d with
  | zero =>
    intro i s hd hi hs
    refine Ev.step (fun _ => rfl) ?_
    simp only [archivistlaw13_EntryPuts.l1]
    rw [List.drop_of_length_le (by omega), List.flatMap_nil] at hs
    refine Ev.neg (by omega) (Ev.pos (by first | trivial | rfl) (Ev.ret ?_))
    rw [toList_by, hs]
    rfl
  | succ d ih =>
    intro i s hd hi hs
    have hlt : i < l.length := by omega
    have he := hok l[i] (List.getElem_mem hlt)
    rw [List.drop_eq_getElem_cons hlt, List.flatMap_cons] at hs
    have hz := by_length s
    have hfl := flat_put (l.drop (i + 1)) (fun q hq => hok q (List.mem_of_mem_drop hq))
    have hdl : (l.drop (i + 1)).length * 20000 ≤ 8 * 20000 := Nat.mul_le_mul_right _ (by rw [List.length_drop]; omega)
    have hpl := putE_len he.1 (smE_right he)
    have hlen : s.size = (putE l[i]).length + ((l.drop (i + 1)).flatMap putE).length := by rw [← hz, hs, List.length_append]
    have hp := parseE_ev l[i] _ s he.1 (smE_right he) (by omega) hs
    have hpos : 1 ≤ (putE l[i]).length := by
      unfold putE textL
      rw [List.length_append, List.length_append, List.length_cons]
      omega
    refine Ev.step (fun _ => rfl) ?_
    simp only [archivistlaw13_EntryPuts.l1]
    have hsame := sameE_ev l[i] l[i] (smE_ok he)
    rw [show (ordE l[i] l[i] == 0) = true by rw [beq_iff_eq]; exact (ordE_stands.eq _ _).2 rfl] at hsame
    refine Ev.pos (by omega) (Ev.bind hp (Ev.pos rfl (Ev.neg (by simp only []; omega) (Ev.neg (by simp only []; omega) (Ev.pos (by omega) ?_)))))
    rw [rdEnt l i hlt, w1 i (by omega)]
    refine Ev.bind hsame (Ev.pos rfl (Ev.pos (by simp only []; omega) (Ev.pos (by simp only []; omega) (ih (i + 1) _ (by omega) (by omega) ?_))))
    simp only []
    rw [by_extract, List.take_of_length_le (by omega), Int.toNat_natCast, hs, List.drop_left]
theorem ep_l0 (x : List Itm) (hg : ∀ y ∈ x, gI y) : ∀ (d i : Nat) (l : List Ent) (s : ByteArray), 8 - i = d → i ≤ 8 → l.length ≤ i → (∀ q ∈ l, smE q) → by_ s = l.flatMap putE →
    Ev (fun k => archivistlaw13_EntryPuts.l0 k x true l s (i : Int)) true := by
  have fin : ∀ (i : Nat) (l : List Ent) (s : ByteArray), l.length ≤ 8 → (∀ q ∈ l, smE q) → by_ s = l.flatMap putE → Ev (fun k => archivistlaw13_EntryPuts.j1 k x true l s (i : Int) false) true := by
    intro i l s hl hq hs
    refine Ev.step (fun _ => rfl) ?_
    simp only [archivistlaw13_EntryPuts.j1]
    exact Ev.neg (by simp) (ep_l1 l hl hq l.length 0 s rfl (Nat.zero_le _) (by rw [List.drop_zero]; exact hs))
  intro d
  induction d with
  | zero =>
    intro i l s hd hi hl hq hs
    refine Ev.step (fun _ => rfl) ?_
    simp only [archivistlaw13_EntryPuts.l0]
    rw [decide_eq_false (show ¬ (i : Int) < 8 by omega)]
    by_cases h : (i : Int) < (x.length : Int)
    · exact Ev.pos h (fin i l s (by omega) hq hs)
    · exact Ev.neg h (fin i l s (by omega) hq hs)
  | succ d ih =>
    intro i l s hd hi hl hq hs
    refine Ev.step (fun _ => rfl) ?_
    simp only [archivistlaw13_EntryPuts.l0]
    by_cases h : i < x.length
    · obtain ⟨_, _, g3, g4, g5, g6⟩ := hg x[i] (List.getElem_mem h)
      obtain ⟨e, he, hev⟩ := itemOwn_ev x[i].f0.f0 x[i].f0.f1 x[i].f0.f2 x[i].f2 x[i].f3 x[i].f4 g3 g4 g5 g6
      have hz := by_length s
      have hfl := flat_put l hq
      have hdl : l.length * 20000 ≤ 8 * 20000 := Nat.mul_le_mul_right _ (by omega)
      have hpl := putE_len he.1 (smE_right he)
      have zp : (⟨(putE e).toArray⟩ : ByteArray).size = (putE e).length := by rw [← by_length, by_mk]
      have hsl : s.size = (l.flatMap putE).length := by rw [← hz, hs]
      refine Ev.pos (by omega) ?_
      rw [decide_eq_true (show (i : Int) < 8 by omega)]
      refine Ev.step (fun _ => rfl) ?_
      simp only [archivistlaw13_EntryPuts.j1]
      rw [rdItm x i h, w1 i (by omega)]
      refine Ev.pos (by first | trivial | rfl) (Ev.pos (by omega) (Ev.pos (by omega) (Ev.bind hev (Ev.pos (by omega) (Ev.bind hev (Ev.bind (putE_evR e he.1 (smE_right he)) (Ev.pos (by omega) (ih (i + 1) _ _ (by omega) (by omega) (by rw [List.length_append]; simp; omega) (fun q hq2 => ?_) ?_))))))))
      · rcases List.mem_append.1 hq2 with hq2 | hq2
        · exact hq q hq2
        · rw [List.mem_singleton] at hq2
          subst hq2
          exact he
      · rw [by_append, show by_ (⟨(putE e).toArray⟩ : ByteArray) = putE e from by rw [by_mk], hs, List.flatMap_append]
        simp
    · exact Ev.neg (by omega) (fin i l s (by omega) hq hs)
theorem EntryPuts : archivistlaw13_EntryPuts.PureS := by
  intro x g t
  refine Ev.rounds ?_
  unfold archivistlaw13_EntryPuts.f
  exact Ev.bind examples13_ev (Ev.pos (by trivial) (ep_l0 x (fun y hy => gI_of y (g.2 y hy) (t.2 y hy)) 8 0 [] ⟨#[]⟩ rfl (Nat.zero_le _) (Nat.le_refl _) (fun q hq => by simp at hq) rfl))
end Go.Proofs.YtjmbddgbojcpmaaDoor.Pure
