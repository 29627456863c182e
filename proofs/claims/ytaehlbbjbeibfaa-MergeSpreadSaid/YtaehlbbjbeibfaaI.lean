/-
 What the laws of package merge draw: entries, put in their order; the document's entries, for the seat Ytaehlbbjbeibfaa.
-/
import Derived.Test.YtaehlbbjbeibfaaX13
import Derived.Test.YtaehlbbjbeibfaaX4
import Derived.Test.YtaehlbbjbeibfaaX60
import Derived.Test.YtaehlbbjbeibfaaJ
import Derived.Test.YtaehlbbjbeibfaaHK
set_option linter.unusedVariables false
set_option linter.unusedSimpArgs false
namespace Go.Proofs.Ytaehlbbjbeibfaa.B
open Go.RowKit Go.Proofs.Ytaehlbbjbeibfaa.X Go.Proofs.Ytaehlbbjbeibfaa.Pure Go.Proofs.YtaehlbbjbeibfaaW.PrintWords Go.Proofs.YtaehlbbjbeibfaaW.PrintLast

theorem rdItm (l : List Itm) (i : Nat) (h : i < l.length) : rd_T30 l (i : Int) = l[i] := by simp [rd_T30, h]
theorem items_loop (x : List Itm) (hg : ∀ y ∈ x, gI y) (m : Nat) (hm : m ≤ 1000) : ∀ (d i : Nat) (p : List Ent), m - i = d → i ≤ m → p.length ≤ i → (∀ q ∈ p, okE q) →
  ∃ L : List Ent, L.length ≤ m ∧ (∀ q ∈ L, okE q) ∧ Ev (fun k => archivistlaw16_items.l0 k x (m : Int) p (i : Int)) L := by
 intro d
 induction d with
 | zero =>
  intro i p hd hi hp hq
  refine ⟨p, by omega, hq, Ev.step (fun _ => rfl) ?_⟩
  simp only [archivistlaw16_items.l0]
  by_cases h : (i : Int) < (x.length : Int)
  ·exact Ev.pos h (Ev.neg (by omega) (Ev.now _))
  ·exact Ev.neg h (Ev.now _)
 | succ d ih =>
  intro i p hd hi hp hq
  by_cases h : i < x.length
  ·obtain ⟨e, _, he, _, hev⟩ := item_ev x[i] (hg _ (List.getElem_mem h))
   obtain ⟨L, h1, h2, h3⟩ := ih (i + 1) (p ++ [⟨e.f0, e.f1, e.f2⟩]) (by omega) (by omega) (by rw [List.length_append]; simp; omega) (fun q hq2 => by
    rcases List.mem_append.1 hq2 with hq2 | hq2
    ·exact hq q hq2
    ·rw [List.mem_singleton] at hq2
     subst hq2
     exact he)
   refine ⟨L, h1, h2, Ev.step (fun _ => rfl) ?_⟩
   simp only [archivistlaw16_items.l0]
   rw [rdItm x i h, w1 i (by omega)]
   exact Ev.pos (by omega) (Ev.pos (by omega) (Ev.pos (by omega) (Ev.bind hev (Ev.pos (by omega) h3))))
  ·refine ⟨p, by omega, hq, Ev.step (fun _ => rfl) ?_⟩
   simp only [archivistlaw16_items.l0]
   exact Ev.neg (by omega) (Ev.now _)
theorem items_ev (x : List Itm) (hg : ∀ y ∈ x, gI y) (m : Nat) (hm : m ≤ 1000) : ∃ L : List Ent, L.length ≤ m ∧ (∀ q ∈ L, okE q) ∧ Ev (fun k => archivistlaw16_items.f k x (m : Int)) L :=
 items_loop x hg m hm m 0 [] rfl (Nat.zero_le _) (Nat.le_refl _) (fun q hq => by simp at hq)
/-! ### merged -/
theorem allF_ev (asc : Bool) (most : Int) (ls : List (List Ent)) (h : fitL ls) : Ev (fun k => merge_All.f k asc most ls) (allE asc most ls) := by
 unfold merge_All.f
 rw [if_pos h]
 exact Ev.now _
theorem allE_sorted {asc : Bool} {most : Int} {ls : List (List Ent)} (h : ∀ l ∈ ls, SrtB (ahE asc) l) : allE asc most ls = ((canon (ahE asc) ls.flatten).take most.toNat, true) := by
 unfold allE
 rw [if_pos (List.all_eq_true.2 fun l hl => (sortedB_srt asc l).2 (h l hl))]
theorem fitL_of {ls : List (List Ent)} (h1 : ls.length ≤ 1000) (h2 : ∀ l ∈ ls, l.length ≤ 100) (h3 : ∀ l ∈ ls, ∀ e ∈ l, okE e) : fitL ls := by
 refine ⟨by omega, ?_, h3⟩
 have : ∀ (ms : List (List Ent)), (∀ l ∈ ms, l.length ≤ 100) → ms.flatten.length ≤ ms.length * 100 := by
  intro ms
  induction ms with
  | nil => intro _; simp
  | cons a t ih =>
   intro h
   have h1 := h a List.mem_cons_self
   have h2 := ih (fun l hl => h l (List.mem_cons_of_mem _ hl))
   rw [List.flatten_cons, List.length_append, List.length_cons]
   omega
 have := this ls h2
 omega
theorem upto_loop (asc : Bool) (e : Ent) (l : List Ent) (he : okE e) (hl : ∀ q ∈ l, okE q) (hn : l.length ≤ 1000) : ∀ (d i : Nat) (p : List Ent), l.length - i = d → i ≤ l.length → p.length ≤ i →
  Ev (fun k => merge_Upto.l0 k asc p l (l.length : Int) (i : Int) e.f0 e.f1 e.f2) (p ++ (l.drop i).filter fun x => !ahE asc e x) := by
 intro d
 induction d with
 | zero =>
  intro i p hd hi hp
  refine Ev.step (fun _ => rfl) ?_
  simp only [merge_Upto.l0]
  rw [List.drop_of_length_le (by omega), List.filter_nil, List.append_nil]
  exact Ev.neg (by omega) (Ev.now _)
 | succ d ih =>
  intro i p hd hi hp
  have hlt : i < l.length := by omega
  have ha := aheadE_ev e l[i] asc he (hl _ (List.getElem_mem hlt))
  refine Ev.step (fun _ => rfl) ?_
  simp only [merge_Upto.l0]
  rw [rdEnt l i hlt, w1 i (by omega), List.drop_eq_getElem_cons hlt]
  cases hb : ahE asc e l[i] with
  | true =>
   rw [hb] at ha
   rw [List.filter_cons_of_neg (by rw [hb]; simp)]
   exact Ev.pos (by omega) (Ev.pos (by omega) (Ev.pos (by omega) (Ev.bind ha (Ev.pos rfl (ih (i + 1) p (by omega) (by omega) (by omega))))))
  | false =>
   rw [hb] at ha
   rw [List.filter_cons_of_pos (by rw [hb]; simp)]
   have := ih (i + 1) (p ++ [l[i]]) (by omega) (by omega) (by rw [List.length_append]; simp; omega)
   rw [List.append_assoc] at this
   exact Ev.pos (by omega) (Ev.pos (by omega) (Ev.pos (by omega) (Ev.bind ha (Ev.neg (by simp) (Ev.pos (by omega) this)))))
theorem upto_ev (asc : Bool) (e : Ent) (l : List Ent) (he : okE e) (hl : ∀ q ∈ l, okE q) (hn : l.length ≤ 1000) : Ev (fun k => merge_Upto.f k asc e.f0 e.f1 e.f2 l) (l.filter fun x => !ahE asc e x) := by
 have := upto_loop asc e l he hl hn l.length 0 [] rfl (Nat.zero_le _) (Nat.le_refl _)
 rwa [List.drop_zero, List.nil_append] at this
theorem first_ev (asc : Bool) (l : List Ent) (h : fitE l) : Ev (fun k => merge_First.f k asc l) ((firstE asc l).f0, (firstE asc l).f1, (firstE asc l).f2, !l.isEmpty) := by
 unfold merge_First.f
 rw [if_pos h]
 exact Ev.now _
end Go.Proofs.Ytaehlbbjbeibfaa.B
