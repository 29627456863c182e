/-
  The law of entries that were put in their order, for the seat YtjmbddgbojcpmaaDoor.
-/
import Derived.Test.YtjmbddgbojcpmaaDoorX20
import Derived.Test.YtjmbddgbojcpmaaDoorX18
import Derived.Test.YtjmbddgbojcpmaaDoorRwEntrySorted
import Derived.Test.YtjmbddgbojcpmaaDoorJ
set_option linter.unusedVariables false
set_option linter.unusedSimpArgs false
namespace Go.Proofs.YtjmbddgbojcpmaaDoor.Pure
open Go.RowKit Go.Proofs.YtjmbddgbojcpmaaDoor.X Go.Proofs.YtjmbddgbojcpmaaDoor.B Go.Proofs.YtjmbddgbojcpmaaDoorW.PrintWords Go.Proofs.YtjmbddgbojcpmaaDoorW.PrintLast

theorem gI_of (x : Itm) (g : g29 x) (t : T29 140737488351232 x) : gI x := by
  obtain ⟨⟨g0, _, _⟩, _, g2, g3, g4⟩ := g
  obtain ⟨⟨_, t1, _⟩, _⟩ := t
  refine ⟨in64_wf g0, by have := t1.1; omega, ?_, fun y hy => ?_, ?_⟩
  · simp [Lit.wf, IntKind.min, IntKind.max, IntKind.bits, IntKind.signed] at g2
    exact g2
  · have h := (g3.2 y hy).2.2
    simp [Lit.wf, IntKind.min, IntKind.max, IntKind.bits, IntKind.signed] at h
    omega
  · simp [Lit.wf, IntKind.min, IntKind.max, IntKind.bits, IntKind.signed] at g4
    omega
theorem rdItm (l : List Itm) (i : Nat) (h : i < l.length) : rd_T29 l (i : Int) = l[i] := by simp [rd_T29, h]
theorem items_loop (x : List Itm) (hg : ∀ y ∈ x, gI y) (m : Nat) (hm : m ≤ 1000) : ∀ (d i : Nat) (p : List Ent), m - i = d → i ≤ m → p.length ≤ i → (∀ q ∈ p, okE q) →
    ∃ L : List Ent, L.length ≤ m ∧ (∀ q ∈ L, okE q) ∧ Ev (fun k => archivistlaw13_items.l0 k x (m : Int) p (i : Int)) L := by
  intro d
  induction d with
  | zero =>
    intro i p hd hi hp hq
    refine ⟨p, by omega, hq, Ev.step (fun _ => rfl) ?_⟩
    simp only [archivistlaw13_items.l0]
    by_cases h : (i : Int) < (x.length : Int)
    · exact Ev.pos h (Ev.neg (by omega) (Ev.now _))
    · exact Ev.neg h (Ev.now _)
  | succ d ih =>
    intro i p hd hi hp hq
    by_cases h : i < x.length
    · obtain ⟨e, _, he, _, hev⟩ := item_ev x[i] (hg _ (List.getElem_mem h))
      obtain ⟨L, h1, h2, h3⟩ := ih (i + 1) (p ++ [⟨e.f0, e.f1, e.f2⟩]) (by omega) (by omega) (by rw [List.length_append]; simp; omega) (fun q hq2 => by
        rcases List.mem_append.1 hq2 with hq2 | hq2
        · exact hq q hq2
        · rw [List.mem_singleton] at hq2
          subst hq2
          exact he)
      refine ⟨L, h1, h2, Ev.step (fun _ => rfl) ?_⟩
      simp only [archivistlaw13_items.l0]
      rw [rdItm x i h, w1 i (by omega)]
      exact Ev.pos (by omega) (Ev.pos (by omega) (Ev.pos (by omega) (Ev.bind hev (Ev.pos (by omega) h3))))
    · refine ⟨p, by omega, hq, Ev.step (fun _ => rfl) ?_⟩
      simp only [archivistlaw13_items.l0]
      exact Ev.neg (by omega) (Ev.now _)
/-- one list in order -/
def Srt (l : List Ent) : Prop := l.Pairwise fun x y => ordE x y ≤ 0
theorem srt_at {l : List Ent} (h : Srt l) (i j : Nat) (hi : i < l.length) (hj : j < l.length) (hij : i ≤ j) : ordE l[i] l[j] ≤ 0 := by
  rcases Nat.lt_or_ge i j with h1 | h1
  · exact (List.pairwise_iff_getElem.1 h) i j hi hj h1
  · obtain rfl : i = j := by omega
    have := (ordE_stands.eq l[i] l[i]).2 rfl
    omega
theorem srt_ins {l : List Ent} (h : Srt l) (x : Ent) (m : Nat) (hm : m ≤ l.length) (h1 : ∀ (j : Nat) (hj : j < l.length), m ≤ j → ordE x l[j] ≤ 0) (h2 : ∀ (j : Nat) (hj : j < l.length), j < m → ordE l[j] x ≤ 0) : Srt (l.take m ++ [x] ++ l.drop m) := by
  have hs := h
  unfold Srt at hs ⊢
  rw [← List.take_append_drop m l, List.pairwise_append] at hs
  rw [List.append_assoc, List.pairwise_append]
  refine ⟨hs.1, ?_, fun a ha b hb => ?_⟩
  · rw [List.singleton_append, List.pairwise_cons]
    refine ⟨fun b hb => ?_, hs.2.1⟩
    obtain ⟨j, hj, rfl⟩ := List.mem_iff_getElem.1 hb
    rw [List.length_drop] at hj
    rw [List.getElem_drop]
    exact h1 (m + j) (by omega) (by omega)
  · rcases List.mem_cons.1 (by simpa using hb : b ∈ x :: l.drop m) with rfl | hb
    · obtain ⟨j, hj, rfl⟩ := List.mem_iff_getElem.1 ha
      rw [List.length_take] at hj
      rw [List.getElem_take]
      exact h2 j (by omega) (by omega)
    · exact hs.2.2 a ha b hb
theorem es_l2end (p : List Ent) (hp : p.length ≤ 10) (hs : Srt p) (hok : ∀ q ∈ p, okE q) : Ev (fun k => archivistlaw13_EntrySorted.l2 k true p p.reverse (-1)) true := by
  obtain ⟨b1, e1, i1⟩ := sortedE_ev true p hok
  obtain ⟨b2, e2, i2⟩ := sortedE_ev false p.reverse (fun q hq => hok q (List.mem_reverse.1 hq))
  obtain ⟨b3, e3, i3⟩ := sortedE_ev false p hok
  have t1 : b1 = true := i1.2 fun j hj => by
    unfold ahE
    rw [if_pos rfl, decide_eq_false_iff_not]
    have := srt_at hs j (j + 1) (by omega) hj (by omega)
    have := ordE_stands.flip p[j + 1] p[j]
    omega
  have t2 : b2 = true := i2.2 fun j hj => by
    rw [List.length_reverse] at hj
    unfold ahE
    rw [if_neg (by simp), decide_eq_false_iff_not, List.getElem_reverse, List.getElem_reverse]
    have := srt_at hs (p.length - 1 - (j + 1)) (p.length - 1 - j) (by omega) (by omega) (by omega)
    have := ordE_stands.flip p[p.length - 1 - j] p[p.length - 1 - (j + 1)]
    omega
  subst t1 t2
  refine Ev.step (fun _ => rfl) ?_
  simp only [archivistlaw13_EntrySorted.l2]
  refine Ev.neg (by omega) ?_
  by_cases h0 : p.length = 0
  · have t3 : b3 = true := i3.2 fun j hj => absurd hj (by omega)
    subst t3
    exact Ev.pos (by omega) (Ev.pos (by first | trivial | rfl) (Ev.bind e1 (Ev.pos rfl (Ev.bind e2 (Ev.pos rfl (Ev.bind e3 (Ev.ret rfl)))))))
  · have hw : wrap64 ((p.length : Int) - 1) = ((p.length - 1 : Nat) : Int) := by rw [wrap_in] <;> omega
    have r0 : rd_T25 p 0 = p[0] := rdEnt p 0 (by omega)
    rw [hw, rdEnt p (p.length - 1) (by omega), r0]
    refine Ev.neg (by omega) (Ev.pos (by omega) (Ev.pos (by omega) (Ev.pos (by omega) (Ev.bind (sameE_ev p[0] p[p.length - 1] (hok _ (List.getElem_mem _))) (Ev.pos (by first | trivial | rfl) (Ev.bind e1 (Ev.pos rfl (Ev.bind e2 (Ev.pos rfl (Ev.bind e3 (Ev.ret ?_)))))))))))
    rw [beq_iff_eq]
    cases hb3 : b3 with
    | true =>
      symm
      rw [beq_iff_eq]
      have hall : ∀ (j : Nat) (hj : j < p.length), p[0] = p[j] := by
        intro j
        induction j with
        | zero => intro _; rfl
        | succ j ih =>
          intro hj
          rw [ih (by omega)]
          have h1 := i3.1 hb3 j hj
          unfold ahE at h1
          rw [if_neg (by simp), decide_eq_false_iff_not] at h1
          have h2 := srt_at hs j (j + 1) (by omega) hj (by omega)
          exact (ordE_stands.eq _ _).1 (by omega)
      exact (ordE_stands.eq _ _).2 (hall (p.length - 1) (by omega))
    | false =>
      symm
      rw [beq_eq_false_iff_ne]
      intro he
      have : b3 = true := i3.2 fun j hj => by
        unfold ahE
        rw [if_neg (by simp), decide_eq_false_iff_not]
        have h1 := srt_at hs 0 j (by omega) (by omega) (by omega)
        have h2 := srt_at hs (j + 1) (p.length - 1) hj (by omega) (by omega)
        rw [← (ordE_stands.eq _ _).1 he] at h2
        have h3 := ordE_stands.le h2 h1
        have h4 := ordE_stands.flip p[j] p[j + 1]
        omega
      rw [hb3] at this
      cases this
theorem es_l2 (p : List Ent) (hp : p.length ≤ 10) (hs : Srt p) (hok : ∀ q ∈ p, okE q) : ∀ (i : Nat) (acc : List Ent), i ≤ p.length → acc = (p.drop i).reverse → Ev (fun k => archivistlaw13_EntrySorted.l2 k true p acc ((i : Int) - 1)) true := by
  intro i
  induction i with
  | zero =>
    intro acc hi ha
    rw [ha, List.drop_zero]
    exact es_l2end p hp hs hok
  | succ i ih =>
    intro acc hi ha
    have hlt : i < p.length := by omega
    have hal : acc.length ≤ 10 := by rw [ha, List.length_reverse, List.length_drop]; omega
    refine Ev.step (fun _ => rfl) ?_
    simp only [archivistlaw13_EntrySorted.l2]
    rw [show (((i + 1 : Nat) : Int) - 1) = (i : Int) by omega, rdEnt p i hlt, show wrap64 ((i : Int) - 1) = (i : Int) - 1 by rw [wrap_in] <;> omega]
    refine Ev.pos (by omega) (Ev.pos (by omega) (Ev.pos (by omega) (Ev.pos (by omega) (ih _ (by omega) ?_))))
    rw [ha, List.drop_eq_getElem_cons hlt, List.reverse_cons]
theorem es_l0 (x : List Ent) (hx : x.length ≤ 10) (hok : ∀ q ∈ x, okE q) : ∀ (d i : Nat) (p : List Ent), x.length - i = d → i ≤ x.length → p.length = i → Srt p → (∀ q ∈ p, okE q) → Ev (fun k => archivistlaw13_EntrySorted.l0 k true x p (i : Int)) true := by
  intro d
  induction d with
  | zero =>
    intro i p hd hi hp hs hq
    refine Ev.step (fun _ => rfl) ?_
    simp only [archivistlaw13_EntrySorted.l0]
    rw [show wrap64 ((p.length : Int) - 1) = (p.length : Int) - 1 by rw [wrap_in] <;> omega]
    exact Ev.neg (by omega) (es_l2 p (by omega) hs hq p.length [] (Nat.le_refl _) (by rw [List.drop_length]; rfl))
  | succ d ih =>
    intro i p hd hi hp hs hq
    have hlt : i < x.length := by omega
    have hxo := hok x[i] (List.getElem_mem hlt)
    have ins : ∀ (m : Nat), m ≤ p.length → (∀ (j : Nat) (hj : j < p.length), m ≤ j → ordE x[i] p[j] ≤ 0) → (∀ (j : Nat) (hj : j < p.length), j < m → ordE p[j] x[i] ≤ 0) → Ev (fun k => archivistlaw13_EntrySorted.l0 k true x (p.take m ++ [x[i]] ++ p.drop m) ((i + 1 : Nat) : Int)) true := by
      intro m hm h1 h2
      refine ih (i + 1) _ (by omega) (by omega) (by simp only [List.length_append, List.length_take, List.length_drop, List.length_singleton]; omega) (srt_ins hs x[i] m hm h1 h2) (fun q hq2 => ?_)
      simp only [List.mem_append, List.mem_singleton] at hq2
      rcases hq2 with (hq2 | rfl) | hq2
      · exact hq q (List.mem_of_mem_take hq2)
      · exact hxo
      · exact hq q (List.mem_of_mem_drop hq2)
    have loop : ∀ (m : Nat), m ≤ p.length → (∀ (j : Nat) (hj : j < p.length), m ≤ j → ordE x[i] p[j] ≤ 0) → Ev (fun k => archivistlaw13_EntrySorted.l1 k true x p (i : Int) (m : Int)) true := by
      intro m
      induction m with
      | zero =>
        intro hm h1
        have hins := ins 0 hm h1 (fun j _ hj => absurd hj (Nat.not_lt_zero _))
        refine Ev.step (fun _ => rfl) ?_
        simp only [archivistlaw13_EntrySorted.l1]
        rw [rdEnt x i hlt, w1 i (by omega)]
        refine Ev.neg (by omega) (Ev.pos (by omega) (Ev.pos (by omega) (Ev.one (Ev.pos (by simp) (Ev.one (Ev.pos (by omega) (Ev.pos (by omega) (Ev.pos (by simp) (Ev.one (Ev.one (Ev.pos (by simp; omega) ?_)))))))))))
        exact hins
      | succ m ihm =>
        intro hm h1
        have hml : m < p.length := by omega
        have hw : wrap64 (((m + 1 : Nat) : Int) - 1) = (m : Int) := by rw [wrap_in] <;> omega
        have hah := aheadE_ev x[i] p[m] true hxo (hq _ (List.getElem_mem hml))
        refine Ev.step (fun _ => rfl) ?_
        simp only [archivistlaw13_EntrySorted.l1]
        rw [hw, rdEnt x i hlt, rdEnt p m hml, w1 i (by omega)]
        refine Ev.pos (by omega) (Ev.pos (by omega) (Ev.pos (by omega) (Ev.pos (by omega) (Ev.pos (by omega) (Ev.bind hah ?_)))))
        unfold ahE
        rw [if_pos rfl]
        by_cases hlt2 : ordE x[i] p[m] < 0
        · rw [decide_eq_true hlt2]
          exact Ev.pos rfl (ihm (by omega) (fun j hj hmj => by
            rcases Nat.lt_or_ge m j with h | h
            · exact h1 j hj (by omega)
            · obtain rfl : j = m := by omega
              omega))
        · rw [decide_eq_false hlt2]
          have hins := ins (m + 1) (by omega) h1 (fun j hj hjm => by
            have h2 := srt_at hs j m hj hml (by omega)
            have h3 := ordE_stands.flip x[i] p[m]
            exact ordE_stands.le h2 (by omega))
          refine Ev.neg (by simp) (Ev.pos (by omega) (Ev.pos (by omega) (Ev.one (Ev.pos (by simp; omega) (Ev.one (Ev.pos (by simp; omega) (Ev.one (Ev.one (Ev.pos (by simp; omega) ?_)))))))))
          exact hins
    refine Ev.step (fun _ => rfl) ?_
    simp only [archivistlaw13_EntrySorted.l0]
    exact Ev.pos (by omega) (loop p.length (Nat.le_refl _) (fun j hj h => absurd hj (by omega)))
theorem EntrySorted : archivistlaw13_EntrySorted.PureS := by
  intro x g t
  refine Ev.rounds ?_
  obtain ⟨L, h1, h2, h3⟩ := items_loop x (fun y hy => gI_of y (g.2 y hy) (t.2 y hy)) 10 (by omega) 10 0 [] rfl (Nat.zero_le _) (Nat.le_refl _) (fun q hq => by simp at hq)
  unfold archivistlaw13_EntrySorted.f
  exact Ev.bind examples13_ev (Ev.pos (by trivial) (Ev.bind h3 (es_l0 L h1 h2 L.length 0 [] rfl (Nat.zero_le _) rfl List.Pairwise.nil (fun q hq => by simp at hq))))
end Go.Proofs.YtjmbddgbojcpmaaDoor.Pure
