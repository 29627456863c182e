/-
  The law of sets that labels more are put to, for the seat Ytbkhgldinmabiaa.
-/
import Derived.Test.YtbkhgldinmabiaaX31
import Derived.Test.YtbkhgldinmabiaaRwLabelWith
import Derived.Test.YtbkhgldinmabiaaT
set_option linter.unusedVariables false
set_option linter.unusedSimpArgs false
namespace Go.Proofs.Ytbkhgldinmabiaa.Pure
open Go.RowKit Go.Proofs.Ytbkhgldinmabiaa.X Go.Proofs.Ytbkhgldinmabiaa.B Go.Proofs.YtbkhgldinmabiaaW.PrintWords Go.Proofs.YtbkhgldinmabiaaW.PrintLast

theorem union_get (A B : List Lab) (n : ByteArray) : getL (ofP [] (ofP [] A ++ ofP [] B)) n = (getL (ofP [] B) n).or (getL (ofP [] A) n) := by
  rw [of_get, List.reverse_append, getL_append, getL_rev n (of_rise B), getL_rev n (of_rise A)]
  by_cases h : nameP (by_ n) = true
  · rw [if_pos h]
  · rw [if_neg h, getL_bad (of_names A) h, getL_bad (of_names B) h]
    rfl
theorem union_again (A B : List Lab) : ofP [] (ofP [] (ofP [] A ++ ofP [] B) ++ ofP [] B) = ofP [] (ofP [] A ++ ofP [] B) :=
  ofP_same (of_rise _) (of_names _) fun n => by
    rw [List.reverse_append, getL_append, getL_rev n (of_rise B), getL_rev n (of_rise _), union_get]
    cases getL (ofP [] B) n <;> rfl
/-- how many names there are in two sets -/
theorem rise_filter {l : List Lab} (f : Lab → Bool) (h : Rise l) : Rise (l.filter f) := List.Pairwise.sublist List.filter_sublist h
theorem rise_nodup : ∀ {l : List Lab}, Rise l → (l.map fun x => x.f0).Nodup := fun {l} h => by
  rw [List.nodup_iff_pairwise_ne, List.pairwise_map]
  exact List.Pairwise.imp (R := fun a b : Lab => nl a.f0 b.f0) (fun {a b} (h : nl a.f0 b.f0) (e : a.f0 = b.f0) => nl_irrefl b.f0 (by rwa [e] at h)) h
theorem getL_isSome (l : List Lab) (n : ByteArray) : (getL l n).isSome = true ↔ n ∈ l.map fun x => x.f0 := by
  constructor
  · intro h
    obtain ⟨v, hv⟩ := Option.isSome_iff_exists.1 h
    obtain ⟨z, hz, rfl, _⟩ := getL_some hv
    exact List.mem_map_of_mem hz
  · intro h
    obtain ⟨z, hz, rfl⟩ := List.mem_map.1 h
    unfold getL
    rw [Option.isSome_map, List.find?_isSome]
    exact ⟨z, hz, by simp⟩
theorem union_count (A B : List Lab) : (ofP [] (ofP [] A ++ ofP [] B)).length = (ofP [] B).length + ((ofP [] A).filter fun p => !(getL (ofP [] B) p.f0).isSome).length := by
  have n1 := rise_nodup (of_rise (ofP [] A ++ ofP [] B))
  have n2 := rise_nodup (of_rise B)
  have n3 := rise_nodup (rise_filter (fun p => !(getL (ofP [] B) p.f0).isSome) (of_rise A))
  have n4 : (((ofP [] B).map fun x => x.f0) ++ (((ofP [] A).filter fun p => !(getL (ofP [] B) p.f0).isSome).map fun x => x.f0)).Nodup := by
    rw [List.nodup_append]
    refine ⟨n2, n3, fun a ha b hb e => ?_⟩
    subst e
    obtain ⟨z, hz, rfl⟩ := List.mem_map.1 hb
    have := (List.mem_filter.1 hz).2
    rw [(getL_isSome (ofP [] B) z.f0).2 ha] at this
    simp at this
  have p := (List.perm_ext_iff_of_nodup n1 n4).2 fun n => by
    rw [← getL_isSome, union_get, List.mem_append, ← getL_isSome (ofP [] B)]
    constructor
    · intro h
      cases hB : getL (ofP [] B) n with
      | some v => exact .inl rfl
      | none =>
        right
        rw [hB, Option.none_or] at h
        obtain ⟨z, hz, rfl⟩ := List.mem_map.1 ((getL_isSome _ _).1 h)
        exact List.mem_map_of_mem (List.mem_filter.2 ⟨hz, by rw [hB]; rfl⟩)
    · intro h
      rcases h with h | h
      · obtain ⟨v, hv⟩ := Option.isSome_iff_exists.1 h
        rw [hv]
        rfl
      · obtain ⟨z, hz, rfl⟩ := List.mem_map.1 h
        have := (getL_isSome (ofP [] A) z.f0).2 (List.mem_map_of_mem (List.mem_filter.1 hz).1)
        cases getL (ofP [] B) z.f0 with
        | some v => rfl
        | none => rw [Option.none_or]; exact this
  have := p.length_eq
  rw [List.length_append, List.length_map, List.length_map, List.length_map] at this
  exact this
theorem lw_l1 (a b c : List Lab) (ha : a.length ≤ 6) (hb : b.length ≤ 6) (hc : c.length ≤ 12) (hcn : c.length = b.length + (a.filter fun p => !(getL b p.f0).isSome).length) (hcb : ofP [] (c ++ b) = c) :
    ∀ (d i many : Nat), a.length - i = d → i ≤ a.length → many + ((a.drop i).filter fun p => !(getL b p.f0).isSome).length = c.length →
    Ev (fun k => archivistlaw06_LabelWith.l1 k true a b c (many : Int) (i : Int)) true := by
  intro d
  induction d with
  | zero =>
    intro i many hd hi hm
    rw [List.drop_of_length_le (by omega), List.filter_nil, List.length_nil, Nat.add_zero] at hm
    have e1 := with_ev c b (by omega) (by omega)
    rw [hcb] at e1
    have e2 := same_ev c c (by omega)
    rw [decide_eq_true rfl] at e2
    refine Ev.step (fun _ => rfl) ?_
    simp only [archivistlaw06_LabelWith.l1]
    exact Ev.neg (by omega) (Ev.pos (by trivial) (Ev.pos (by omega) (Ev.bind e1 (Ev.bind e2 (Ev.now _)))))
  | succ d ih =>
    intro i many hd hi hm
    have hlt : i < a.length := by omega
    have g := getSet_ev b (by omega) a[i].f0
    rw [List.drop_eq_getElem_cons hlt, List.filter_cons] at hm
    refine Ev.step (fun _ => rfl) ?_
    simp only [archivistlaw06_LabelWith.l1]
    rw [rdLab a i hlt, w1 i (by omega)]
    refine Ev.pos (by omega) (Ev.pos (by omega) (Ev.bind g ?_))
    cases hg : getL b a[i].f0 with
    | some v =>
      rw [hg] at hm
      exact Ev.pos rfl (ih (i + 1) many (by omega) (by omega) (by simpa using hm))
    | none =>
      rw [hg] at hm
      simp only [Option.isSome_none, Bool.not_false, if_true, List.length_cons] at hm
      rw [w1 many (by omega)]
      exact Ev.neg (by simp [getR]) (ih (i + 1) (many + 1) (by omega) (by omega) (by omega))
theorem lw_l0 (a b c : List Lab) (ha : a.length ≤ 6) (hb : b.length ≤ 6) (hc : c.length ≤ 12) (hr : Rise c) (hg : ∀ n, getL c n = (getL b n).or (getL a n)) (hcn : c.length = b.length + (a.filter fun p => !(getL b p.f0).isSome).length) (hcb : ofP [] (c ++ b) = c) :
    ∀ (d i : Nat), c.length - i = d → i ≤ c.length → Ev (fun k => archivistlaw06_LabelWith.l0 k true a b c (i : Int)) true := by
  intro d
  induction d with
  | zero =>
    intro i hd hi
    have h := lw_l1 a b c ha hb hc hcn hcb a.length 0 b.length rfl (Nat.zero_le _) (by rw [List.drop_zero]; omega)
    refine Ev.step (fun _ => rfl) ?_
    simp only [archivistlaw06_LabelWith.l0]
    exact Ev.neg (by omega) h
  | succ d ih =>
    intro i hd hi
    have hlt : i < c.length := by omega
    have ih' := ih (i + 1) (by omega) (by omega)
    have g1 := getSet_ev b (by omega) c[i].f0
    have g2 := getSet_ev a (by omega) c[i].f0
    have hm := getL_mem hr (List.getElem_mem hlt)
    rw [hg] at hm
    refine Ev.step (fun _ => rfl) ?_
    simp only [archivistlaw06_LabelWith.l0]
    rw [rdLab c i hlt, w1 i (by omega)]
    refine Ev.pos (by omega) (Ev.pos (by omega) (Ev.bind g1 (Ev.bind g2 ?_)))
    cases hb1 : getL b c[i].f0 with
    | some v =>
      rw [hb1, Option.some_or] at hm
      have := Option.some.inj hm
      exact Ev.pos rfl (Ev.pos (ba_eq.2 this.symm) ih')
    | none =>
      rw [hb1, Option.none_or] at hm
      rw [hm]
      exact Ev.neg (by simp [getR]) (Ev.pos rfl (Ev.pos rfl ih'))
theorem LabelWith : archivistlaw06_LabelWith.PureS := by
  intro x y hgx hgy _ _
  refine Ev.rounds ?_
  unfold archivistlaw06_LabelWith.f
  obtain ⟨A, hA, _, ha⟩ := tags_ev x (fun y hy => (hgx.2 y hy).2.2) 6 (by omega)
  obtain ⟨B, hB, _, hb⟩ := tags_ev y (fun y hy => (hgy.2 y hy).2.2) 6 (by omega)
  have la := of_len A
  have lb := of_len B
  have lc := of_len (ofP [] A ++ ofP [] B)
  rw [List.length_append] at lc
  exact Ev.bind labelExamples_ev (Ev.pos (by trivial) (Ev.bind ha (Ev.bind (of_ev A (by omega)) (Ev.bind hb (Ev.bind (of_ev B (by omega)) (Ev.bind (with_ev _ _ (by omega) (by omega))
    (lw_l0 _ _ _ (by omega) (by omega) (by omega) (of_rise _) (union_get A B) (union_count A B) (union_again A B) _ 0 rfl (Nat.zero_le _))))))))
end Go.Proofs.Ytbkhgldinmabiaa.Pure
