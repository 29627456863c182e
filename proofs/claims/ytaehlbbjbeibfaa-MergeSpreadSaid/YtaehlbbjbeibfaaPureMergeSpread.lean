/-
  The law of entries spread over lists, for the seat Ytaehlbbjbeibfaa.
-/
import Derived.Test.YtaehlbbjbeibfaaX13
import Derived.Test.YtaehlbbjbeibfaaX63
import Derived.Test.YtaehlbbjbeibfaaRwMergeSpread
import Derived.Test.YtaehlbbjbeibfaaI
import Derived.Test.YtaehlbbjbeibfaaIR
set_option linter.unusedVariables false
set_option linter.unusedSimpArgs false
namespace Go.Proofs.Ytaehlbbjbeibfaa.Pure
open Go.RowKit Go.Proofs.Ytaehlbbjbeibfaa.X Go.Proofs.Ytaehlbbjbeibfaa.B Go.Proofs.YtaehlbbjbeibfaaW.PrintWords Go.Proofs.YtaehlbbjbeibfaaW.PrintLast

theorem gI_of (x : Itm) (g : g30 x) (t : T30 140737488351232 x) : gI x := by
  obtain ⟨⟨g0, _, _⟩, _, g2, g3, g4⟩ := g
  obtain ⟨⟨_, t1, _⟩, _⟩ := t
  refine ⟨in64_wf g0, by have := t1.1; omega, ?_, fun y hy => ?_, ?_⟩
  · simp [Lit.wf, IntKind.min, IntKind.max, IntKind.bits, IntKind.signed] at g2
    exact g2
  · have h := (g3.2 y hy).2.2
    simp [Lit.wf, IntKind.min, IntKind.max, IntKind.bits, IntKind.signed] at h
    omega
  · simp [Lit.wf, IntKind.min, IntKind.max, IntKind.bits, IntKind.signed] at g4
    omega
/-! ### what is spread -/
theorem stepS_is (ws : List Int) (s : List Ent × List Ent × List Ent) (i : Nat) (e : Ent) : ((stepS ws s i e).1 = s.1 ∨ (stepS ws s i e).1 = s.1 ++ [e]) ∧ ((stepS ws s i e).2.1 = s.2.1 ∨ (stepS ws s i e).2.1 = s.2.1 ++ [e]) ∧ ((stepS ws s i e).2.2 = s.2.2 ∨ (stepS ws s i e).2.2 = s.2.2 ++ [e]) ∧ (e ∈ (stepS ws s i e).1 ∨ e ∈ (stepS ws s i e).2.1 ∨ e ∈ (stepS ws s i e).2.2) := by
  unfold stepS
  split
  · simp
  · split
    · simp
    · split
      · simp
      · simp
theorem spr_spec (ws : List Int) : ∀ (t : List Ent) (i : Nat) (s : List Ent × List Ent × List Ent) (p : List Ent), s.1.Sublist p → s.2.1.Sublist p → s.2.2.Sublist p → (∀ e ∈ p, e ∈ s.1 ∨ e ∈ s.2.1 ∨ e ∈ s.2.2) →
    (spr ws i t s).1.Sublist (p ++ t) ∧ (spr ws i t s).2.1.Sublist (p ++ t) ∧ (spr ws i t s).2.2.Sublist (p ++ t) ∧ ∀ e ∈ p ++ t, e ∈ (spr ws i t s).1 ∨ e ∈ (spr ws i t s).2.1 ∨ e ∈ (spr ws i t s).2.2
  | [], i, s, p, h1, h2, h3, h4 => by
    rw [List.append_nil]
    exact ⟨h1, h2, h3, h4⟩
  | e :: t, i, s, p, h1, h2, h3, h4 => by
    obtain ⟨s1, s2, s3, s4⟩ := stepS_is ws s i e
    have f : ∀ {l m : List Ent}, l.Sublist p → (m = l ∨ m = l ++ [e]) → m.Sublist (p ++ [e]) := fun hl hm => by
      rcases hm with rfl | rfl
      · exact hl.trans (List.sublist_append_left _ _)
      · exact hl.append (List.Sublist.refl _)
    have k : ∀ {l m : List Ent} {x : Ent}, x ∈ l → (m = l ∨ m = l ++ [e]) → x ∈ m := fun hx hm => by
      rcases hm with rfl | rfl
      · exact hx
      · exact List.mem_append_left _ hx
    have := spr_spec ws t (i + 1) (stepS ws s i e) (p ++ [e]) (f h1 s1) (f h2 s2) (f h3 s3) (fun x hx => by
      rcases List.mem_append.1 hx with hx | hx
      · rcases h4 x hx with h | h | h
        · exact .inl (k h s1)
        · exact .inr (.inl (k h s2))
        · exact .inr (.inr (k h s3))
      · rw [List.mem_singleton] at hx
        rw [hx]
        exact s4)
    rw [List.append_assoc] at this
    exact this
theorem spread_spec (ws : List Int) (a : List Ent) : (spread ws a).1.Sublist a ∧ (spread ws a).2.1.Sublist a ∧ (spread ws a).2.2.Sublist a ∧ ∀ e ∈ a, e ∈ (spread ws a).1 ∨ e ∈ (spread ws a).2.1 ∨ e ∈ (spread ws a).2.2 :=
  spr_spec ws a 0 ([], [], []) [] (List.Sublist.refl _) (List.Sublist.refl _) (List.Sublist.refl _) (fun e he => by simp at he)
theorem there_loop (a C : List Ent) (i : Nat) (hi : i < a.length) (ha : ∀ q ∈ a, okE q) (hC : ∀ q ∈ C, okE q) (hn : C.length ≤ 1000) (hm : a.length ≤ 1000) (rest : Ev (fun k => archivistlaw16_MergeSpread.l1 k true a C ((i + 1 : Nat) : Int)) true) : ∀ (d j : Nat) (b : Bool), C.length - j = d → j ≤ C.length → (b = true ∨ a[i] ∈ C.drop j) →
    Ev (fun k => archivistlaw16_MergeSpread.l2 k true a C (i : Int) b (j : Int)) true := by
  intro d
  induction d with
  | zero =>
    intro j b hd hj hb
    rw [List.drop_of_length_le (by omega)] at hb
    have hb2 : b = true := by
      rcases hb with h | h
      · exact h
      · simp at h
    refine Ev.step (fun _ => rfl) ?_
    simp only [archivistlaw16_MergeSpread.l2]
    rw [w1 i (by omega)]
    exact Ev.neg (by omega) (Ev.pos hb2 rest)
  | succ d ih =>
    intro j b hd hj hb
    have hlt : j < C.length := by omega
    refine Ev.step (fun _ => rfl) ?_
    simp only [archivistlaw16_MergeSpread.l2]
    rw [w1 j (by omega)]
    cases b with
    | true => exact Ev.pos (by omega) (Ev.pos rfl (ih (j + 1) true (by omega) (by omega) (.inl rfl)))
    | false =>
      have s1 := sameE_ev a[i] C[j] (ha _ (List.getElem_mem hi))
      rw [rdEnt a i hi, rdEnt C j hlt]
      refine Ev.pos (by omega) (Ev.neg (by simp) (Ev.pos (by omega) (Ev.pos (by omega) (Ev.pos (by omega) (Ev.bind s1 (ih (j + 1) _ (by omega) (by omega) ?_))))))
      rcases hb with h | h
      · cases h
      · rw [List.drop_eq_getElem_cons hlt] at h
        rcases List.mem_cons.1 h with h | h
        · left
          rw [(ordE_stands.eq a[i] C[j]).2 h]
          rfl
        · exact .inr h
theorem all_loop (a C : List Ent) (ha : ∀ q ∈ a, okE q) (hC : ∀ q ∈ C, okE q) (hn : C.length ≤ 1000) (hm : a.length ≤ 1000) (hin : ∀ e ∈ a, e ∈ C) : ∀ (d i : Nat), a.length - i = d → i ≤ a.length →
    Ev (fun k => archivistlaw16_MergeSpread.l1 k true a C (i : Int)) true := by
  intro d
  induction d with
  | zero =>
    intro i hd hi
    refine Ev.step (fun _ => rfl) ?_
    simp only [archivistlaw16_MergeSpread.l1]
    exact Ev.neg (by omega) (Ev.now _)
  | succ d ih =>
    intro i hd hi
    have hlt : i < a.length := by omega
    refine Ev.step (fun _ => rfl) ?_
    simp only [archivistlaw16_MergeSpread.l1]
    exact Ev.pos (by omega) (there_loop a C i hlt ha hC hn hm (ih (i + 1) (by omega) (by omega)) C.length 0 false rfl (Nat.zero_le _) (.inr (by rw [List.drop_zero]; exact hin _ (List.getElem_mem hlt))))
theorem alike_loop (asc : Bool) (a C : List Ent) (ha : ∀ q ∈ a, okE q) (hC : ∀ q ∈ C, okE q) (hn : C.length ≤ 1000) (hm : a.length ≤ 1000) (hin : ∀ e ∈ a, e ∈ C) (hup : Up (ahE asc) C) : ∀ (d i : Nat), C.length - i = d → i ≤ C.length →
    Ev (fun k => archivistlaw16_MergeSpread.l0 k asc true a C C C (i : Int)) true := by
  intro d
  induction d with
  | zero =>
    intro i hd hi
    refine Ev.step (fun _ => rfl) ?_
    simp only [archivistlaw16_MergeSpread.l0]
    exact Ev.neg (by omega) (all_loop a C ha hC hn hm hin a.length 0 rfl (Nat.zero_le _))
  | succ d ih =>
    intro i hd hi
    have hlt : i < C.length := by omega
    have s1 := sameE_ev C[i] C[i] (hC _ (List.getElem_mem hlt))
    rw [(ordE_stands.eq C[i] C[i]).2 rfl] at s1
    have nx := ih (i + 1) (by omega) (by omega)
    refine Ev.step (fun _ => rfl) ?_
    simp only [archivistlaw16_MergeSpread.l0]
    rw [rdEnt C i hlt, w1 i (by omega)]
    refine Ev.pos (by omega) (Ev.pos (by omega) (Ev.pos (by omega) (Ev.bind s1 (Ev.pos rfl (Ev.pos (by omega) (Ev.bind s1 (Ev.pos rfl ?_)))))))
    by_cases h0 : (i : Int) > 0
    · obtain ⟨j, rfl⟩ : ∃ j, i = j + 1 := ⟨i - 1, by omega⟩
      have hj : j < C.length := by omega
      have hw : wrap64 (((j + 1 : Nat) : Int) - 1) = (j : Int) := by rw [wrap_in] <;> omega
      have ah := aheadE_ev C[j] C[j + 1] asc (hC _ (List.getElem_mem hj)) (hC _ (List.getElem_mem hlt))
      rw [List.pairwise_iff_getElem.1 hup j (j + 1) hj hlt (by omega)] at ah
      rw [hw, rdEnt C j hj]
      exact Ev.pos h0 (Ev.pos (by omega) (Ev.pos (by omega) (Ev.bind ah (Ev.pos rfl nx))))
    · exact Ev.neg h0 nx
theorem examples_ev : Ev (fun k => archivistlaw16_examples.f k) true := Ev.now _
theorem MergeSpread : archivistlaw16_MergeSpread.PureS := by
  intro x0 x1 x2 g0 g1 t0 t1
  refine Ev.rounds ?_
  obtain ⟨A, a1, a2, a3⟩ := items_ev x0 (fun y hy => gI_of y (g0.2 y hy) (t0.2 y hy)) 12 (by omega)
  obtain ⟨a, c1, c2, c3⟩ := sorted_ev x2 A (by omega) a2
  have hw : ∀ x ∈ x1, 0 ≤ x ∧ x < 256 := fun x hx => by
    have h := g1.2 x hx
    simp [Lit.wf, IntKind.min, IntKind.max, IntKind.bits, IntKind.signed] at h
    omega
  have hal : a.length ≤ 12 := by rw [c1.length_eq]; exact a1
  have hoka : ∀ e ∈ a, okE e := fun e he => a2 e (c1.mem_iff.1 he)
  clear a1 a2 c1 g0 g1 t0 t1
  have hfit : fitS x1 a := ⟨by omega, hw⟩
  obtain ⟨b1, b2, b3, b4⟩ := spread_spec x1 a
  have O := totE x2
  have hup := canon_up O a
  have hCm := canon_mem O a
  have hCl := canon_len (ah := ahE x2) a
  have sub : ∀ {l : List Ent}, l.Sublist a → l.length ≤ 100 ∧ SrtB (ahE x2) l ∧ ∀ e ∈ l, okE e := fun h => ⟨by have := h.length_le; omega, c2.sublist h, fun e he => hoka e (h.subset he)⟩
  have ok1 := sub (List.Sublist.refl a)
  have all1 : ∀ l ∈ [a], l.length ≤ 100 ∧ SrtB (ahE x2) l ∧ ∀ e ∈ l, okE e := fun l hl => by rw [List.mem_singleton] at hl; rw [hl]; exact ok1
  have all2 : ∀ l ∈ [(spread x1 a).1, (spread x1 a).2.1, (spread x1 a).2.2], l.length ≤ 100 ∧ SrtB (ahE x2) l ∧ ∀ e ∈ l, okE e := fun l hl => by
    rcases List.mem_cons.1 hl with rfl | hl
    · exact sub b1
    · rcases List.mem_cons.1 hl with rfl | hl
      · exact sub b2
      · rw [List.mem_singleton] at hl; rw [hl]; exact sub b3
  have all3 : ∀ l ∈ [(spread x1 a).2.2, (spread x1 a).1, (spread x1 a).2.1, (spread x1 a).1], l.length ≤ 100 ∧ SrtB (ahE x2) l ∧ ∀ e ∈ l, okE e := fun l hl => by
    rcases List.mem_cons.1 hl with rfl | hl
    · exact sub b3
    · rcases List.mem_cons.1 hl with rfl | hl
      · exact sub b1
      · rcases List.mem_cons.1 hl with rfl | hl
        · exact sub b2
        · rw [List.mem_singleton] at hl; rw [hl]; exact sub b1
  have e1 := allF_ev x2 100 [a] (fitL_of (by simp) (fun l hl => (all1 l hl).1) (fun l hl => (all1 l hl).2.2))
  have e2 := allF_ev x2 100 [(spread x1 a).1, (spread x1 a).2.1, (spread x1 a).2.2] (fitL_of (by simp) (fun l hl => (all2 l hl).1) (fun l hl => (all2 l hl).2.2))
  have e3 := allF_ev x2 100 [(spread x1 a).2.2, (spread x1 a).1, (spread x1 a).2.1, (spread x1 a).1] (fitL_of (by simp) (fun l hl => (all3 l hl).1) (fun l hl => (all3 l hl).2.2))
  have f : ∀ z, (z ∈ (spread x1 a).1 ∨ z ∈ (spread x1 a).2.1 ∨ z ∈ (spread x1 a).2.2) ↔ z ∈ a := fun z => ⟨fun h => by
    rcases h with h | h | h
    · exact b1.subset h
    · exact b2.subset h
    · exact b3.subset h, b4 z⟩
  rw [allE_sorted (fun l hl => (all1 l hl).2.1), canon_of O hup (fun z => by rw [hCm z, List.flatten_cons, List.flatten_nil, List.append_nil])] at e1
  rw [allE_sorted (fun l hl => (all2 l hl).2.1), canon_of O hup (fun z => by
    rw [hCm z, ← f z, List.flatten_cons, List.mem_append, List.flatten_cons, List.mem_append, List.flatten_cons, List.flatten_nil, List.append_nil])] at e2
  rw [allE_sorted (fun l hl => (all3 l hl).2.1), canon_of O hup (fun z => by
    rw [hCm z, ← f z, List.flatten_cons, List.mem_append, List.flatten_cons, List.mem_append, List.flatten_cons, List.mem_append, List.flatten_cons, List.flatten_nil, List.append_nil]
    constructor
    · rintro (h | h | h)
      · exact .inr (.inl h)
      · exact .inr (.inr (.inl h))
      · exact .inl h
    · rintro (h | h | h | h)
      · exact .inr (.inr h)
      · exact .inl h
      · exact .inr (.inl h)
      · exact .inl h)] at e3
  have hokC : ∀ e ∈ canon (ahE x2) a, okE e := fun e he => hoka e ((hCm e).1 he)
  have hin : ∀ e ∈ a, e ∈ canon (ahE x2) a := fun e he => (hCm e).2 he
  generalize canon (ahE x2) a = C at e1 e2 e3 hup hCl hokC hin
  rw [List.take_of_length_le (show C.length ≤ (100 : Int).toNat from (by omega : C.length ≤ 100))] at e1 e2 e3
  have fin := alike_loop x2 a C hoka hokC (by omega) (by omega) hin hup C.length 0 rfl (Nat.zero_le _)
  unfold archivistlaw16_MergeSpread.f
  refine Ev.bind examples_ev (Ev.pos rfl (Ev.bind a3 (Ev.bind c3 (Ev.pos hfit (Ev.bind e1 (Ev.bind e2 (Ev.bind e3 (Ev.pos rfl (Ev.pos rfl (Ev.pos rfl (Ev.pos rfl ?_)))))))))))
  rw [bne_self_eq_false]
  refine Ev.step (fun _ => rfl) ?_
  simp only [archivistlaw16_MergeSpread.j0]
  exact Ev.neg (by simp) fin
end Go.Proofs.Ytaehlbbjbeibfaa.Pure
