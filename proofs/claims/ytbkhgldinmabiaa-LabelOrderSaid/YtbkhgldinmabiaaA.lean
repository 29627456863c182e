/-
  label.Of in plain lists: a set that one label more is put to; what it tells of a name, for the seat Ytbkhgldinmabiaa.
-/
import Derived.Test.YtbkhgldinmabiaaX4
import Derived.Test.YtbkhgldinmabiaaX5
import Derived.Test.YtbkhgldinmabiaaX6
import Derived.Test.YtbkhgldinmabiaaZ
set_option linter.unusedVariables false
set_option linter.unusedSimpArgs false
namespace Go.Proofs.Ytbkhgldinmabiaa.B
open Go.RowKit Go.Proofs.Ytbkhgldinmabiaa.X Go.Proofs.YtbkhgldinmabiaaW.PrintWords Go.Proofs.YtbkhgldinmabiaaW.PrintLast

/-- one label more -/
def stepP (l : List Lab) (p : Lab) : List Lab :=
  if h : posP l p.f0 < l.length then if l[posP l p.f0].f0 = p.f0 then l.set (posP l p.f0) p else l.take (posP l p.f0) ++ [p] ++ l.drop (posP l p.f0)
  else l ++ [p]
/-- what a set tells of a name -/
def getL (l : List Lab) (n : ByteArray) : Option ByteArray := (l.find? fun x => decide (x.f0 = n)).map fun x => x.f1
theorem getL_nil (n : ByteArray) : getL [] n = none := rfl
theorem getL_cons (x : Lab) (l : List Lab) (n : ByteArray) : getL (x :: l) n = if x.f0 = n then some x.f1 else getL l n := by
  unfold getL
  rw [List.find?_cons]
  by_cases h : x.f0 = n
  · rw [decide_eq_true h, if_pos h]
    rfl
  · rw [decide_eq_false h, if_neg h]
theorem rise_cons {x : Lab} {l : List Lab} (h : Rise (x :: l)) : (∀ y ∈ l, nl x.f0 y.f0) ∧ Rise l := by
  unfold Rise at h
  rwa [List.pairwise_cons] at h
theorem getL_none {l : List Lab} {n : ByteArray} (h : ∀ y ∈ l, y.f0 ≠ n) : getL l n = none := by
  unfold getL
  rw [List.find?_eq_none.2 fun y hy => by simpa using h y hy]
  rfl
theorem stepP_cons (x : Lab) (l : List Lab) (p : Lab) : stepP (x :: l) p = if nl x.f0 p.f0 then x :: stepP l p else if x.f0 = p.f0 then p :: l else p :: x :: l := by
  unfold stepP posP
  by_cases h : nl x.f0 p.f0
  · rw [if_pos h]
    simp only [List.takeWhile_cons, decide_eq_true h, if_true, List.length_cons, Nat.add_lt_add_iff_right, List.getElem_cons_succ, List.set_cons_succ, List.take_succ_cons, List.drop_succ_cons, List.cons_append]
    split
    · split <;> rfl
    · rfl
  · rw [if_neg h]
    simp only [List.takeWhile_cons, decide_eq_false h, if_false, List.length_nil, List.length_cons, Bool.false_eq_true, Nat.zero_lt_succ, dite_true, List.getElem_cons_zero, List.set_cons_zero, List.take_zero, List.drop_zero, List.nil_append, List.singleton_append]
theorem stepP_nil (p : Lab) : stepP [] p = [p] := rfl
theorem stepP_mem : ∀ (l : List Lab) (p y : Lab), y ∈ stepP l p → y = p ∨ y ∈ l
  | [], p, y, h => .inl (List.mem_singleton.1 h)
  | x :: l, p, y, h => by
    rw [stepP_cons] at h
    split at h
    · rcases List.mem_cons.1 h with rfl | h
      · exact .inr (by simp)
      · rcases stepP_mem l p y h with h | h
        · exact .inl h
        · exact .inr (by simp [h])
    · split at h
      · rcases List.mem_cons.1 h with rfl | h
        · exact .inl rfl
        · exact .inr (by simp [h])
      · rcases List.mem_cons.1 h with rfl | h
        · exact .inl rfl
        · exact .inr h
theorem stepP_rise : ∀ (l : List Lab) (p : Lab), Rise l → Rise (stepP l p)
  | [], p, _ => List.pairwise_singleton ..
  | x :: l, p, h => by
    obtain ⟨h1, h2⟩ := rise_cons h
    rw [stepP_cons]
    split
    · rename_i hx
      refine List.pairwise_cons.2 ⟨fun y hy => ?_, stepP_rise l p h2⟩
      rcases stepP_mem l p y hy with rfl | hy
      · exact hx
      · exact h1 y hy
    · rename_i hx
      split
      · rename_i he
        exact List.pairwise_cons.2 ⟨fun y hy => by rw [← he]; exact h1 y hy, h2⟩
      · rename_i hne
        have hpx : nl p.f0 x.f0 := by
          by_cases h3 : nl p.f0 x.f0
          · exact h3
          · exact absurd (nl_tri hx h3) hne
        refine List.pairwise_cons.2 ⟨fun y hy => ?_, h⟩
        rcases List.mem_cons.1 hy with rfl | hy
        · exact hpx
        · exact nl_trans hpx (h1 y hy)
theorem stepP_get : ∀ (l : List Lab) (p : Lab) (n : ByteArray), Rise l → getL (stepP l p) n = if p.f0 = n then some p.f1 else getL l n
  | [], p, n, _ => by rw [stepP_nil, getL_cons]
  | x :: l, p, n, h => by
    obtain ⟨h1, h2⟩ := rise_cons h
    rw [stepP_cons]
    split
    · rename_i hx
      rw [getL_cons, getL_cons, stepP_get l p n h2]
      by_cases e : x.f0 = n
      · rw [if_pos e, if_pos e, if_neg]
        intro e2
        rw [e, ← e2] at hx
        exact nl_irrefl _ hx
      · rw [if_neg e, if_neg e]
    · split
      · rename_i he
        rw [getL_cons, getL_cons, he]
        by_cases e : p.f0 = n
        · rw [if_pos e, if_pos e]
        · rw [if_neg e, if_neg e, if_neg e]
      · rw [getL_cons]
theorem stepP_length (l : List Lab) (p : Lab) : (stepP l p).length ≤ l.length + 1 := by
  induction l with
  | nil => exact Nat.le_refl _
  | cons x l ih =>
    rw [stepP_cons]
    split
    · simp only [List.length_cons]
      omega
    · split <;> simp
/-- two sets that tell the same are the same -/
theorem rise_ext : ∀ {l r : List Lab}, Rise l → Rise r → (∀ n, getL l n = getL r n) → l = r
  | [], [], _, _, _ => rfl
  | [], y :: r, _, _, h => by
    have := h y.f0
    rw [getL_nil, getL_cons, if_pos rfl] at this
    cases this
  | x :: l, [], _, _, h => by
    have := h x.f0
    rw [getL_nil, getL_cons, if_pos rfl] at this
    cases this
  | x :: l, y :: r, hl, hr, h => by
    obtain ⟨l1, l2⟩ := rise_cons hl
    obtain ⟨r1, r2⟩ := rise_cons hr
    have hxy : x.f0 = y.f0 := by
      by_cases e : x.f0 = y.f0
      · exact e
      · exfalso
        have a1 := h x.f0
        rw [getL_cons, if_pos rfl, getL_cons, if_neg (Ne.symm e)] at a1
        have a2 := h y.f0
        rw [getL_cons, if_neg e, getL_cons, if_pos rfl] at a2
        have mem : ∀ {m : List Lab} {n v : ByteArray}, some v = getL m n → ∃ z ∈ m, z.f0 = n := fun {m n v} hm => by
          unfold getL at hm
          cases hf : m.find? fun x => decide (x.f0 = n) with
          | none => rw [hf] at hm; cases hm
          | some z => exact ⟨z, List.mem_of_find?_eq_some hf, by simpa using List.find?_some hf⟩
        obtain ⟨z, hz, hzn⟩ := mem a1
        obtain ⟨z2, hz2, hzn2⟩ := mem a2.symm
        have b1 := r1 z hz
        have b2 := l1 z2 hz2
        rw [hzn] at b1
        rw [hzn2] at b2
        exact nl_asym b1 b2
    have hv : x.f1 = y.f1 := by
      have := h x.f0
      rw [getL_cons, if_pos rfl, getL_cons, if_pos hxy.symm] at this
      exact Option.some.inj this
    have ht : l = r := rise_ext l2 r2 fun n => by
      have a := h n
      rw [getL_cons, getL_cons] at a
      by_cases e : x.f0 = n
      · rw [getL_none (fun z hz e2 => nl_irrefl n (by have := l1 z hz; rwa [e, e2] at this)), getL_none (fun z hz e2 => nl_irrefl n (by have := r1 z hz; rwa [← hxy, e, e2] at this))]
      · rwa [if_neg e, if_neg (fun e2 => e (hxy.trans e2))] at a
    cases x
    cases y
    simp only at hxy hv
    rw [hxy, hv, ht]
/-! ### label.Of -/
def ofP (l : List Lab) (L : List Lab) : List Lab := L.foldl (fun a p => if nameP (by_ p.f0) = true then stepP a p else a) l
theorem ofP_rise : ∀ (L l : List Lab), Rise l → Rise (ofP l L)
  | [], _, h => h
  | p :: L, l, h => by
    unfold ofP
    rw [List.foldl_cons]
    refine ofP_rise L _ ?_
    split
    · exact stepP_rise l p h
    · exact h
theorem ofP_length : ∀ (L l : List Lab), (ofP l L).length ≤ l.length + L.length
  | [], _ => Nat.le_refl _
  | p :: L, l => by
    have h := ofP_length L (if nameP (by_ p.f0) = true then stepP l p else l)
    have h2 := stepP_length l p
    unfold ofP at h ⊢
    rw [List.foldl_cons, List.length_cons]
    by_cases hn : nameP (by_ p.f0) = true
    · rw [if_pos hn] at h ⊢
      omega
    · rw [if_neg hn] at h ⊢
      omega
theorem of_loop (L : List Lab) (hL : L.length ≤ 1000000) : ∀ (d i : Nat) (l : List Lab), L.length - i = d → i ≤ L.length → l.length ≤ i → Rise l →
    Ev (fun k => label_Of.l0 k l L (L.length : Int) (i : Int)) (ofP l (L.drop i)) := by
  intro d
  induction d with
  | zero =>
    intro i l hd hi hl hr
    refine Ev.step (fun _ => rfl) ?_
    simp only [label_Of.l0]
    rw [List.drop_of_length_le (by omega)]
    exact Ev.neg (by omega) (Ev.now _)
  | succ d ih =>
    intro i l hd hi hl hr
    have hlt : i < L.length := by omega
    obtain ⟨p, hp⟩ : ∃ p, L[i] = p := ⟨_, rfl⟩
    rw [List.drop_eq_getElem_cons hlt, hp]
    have hpl := posP_le l p.f0
    have hs := search_loop l (by omega) hr p.f0 p.f1 l.length 0 l.length (by omega) (Nat.zero_le _) (Nat.le_refl _) (fun m _ h => absurd h (Nat.not_lt_zero m)) (fun m h h2 => by omega)
    refine Ev.step (fun _ => rfl) ?_
    simp only [label_Of.l0]
    rw [rdLab L i hlt, hp, w1 i (by omega)]
    refine Ev.pos (by omega) (Ev.pos (by omega) (Ev.pos (by omega) (Ev.bind (name_ev p.f0) ?_)))
    unfold ofP
    rw [List.foldl_cons]
    by_cases hn : nameP (by_ p.f0) = true
    · rw [if_pos hn]
      refine Ev.pos hn (Ev.bind hs ?_)
      have ih' := ih (i + 1) (stepP l p) (by omega) (by omega) (by have := stepP_length l p; omega) (stepP_rise l p hr)
      unfold ofP at ih'
      dsimp only
      by_cases hlt2 : posP l p.f0 < l.length
      · rw [dif_pos hlt2]
        by_cases he : l[posP l p.f0].f0 = p.f0
        · have e : stepP l p = l.set (posP l p.f0) p := by unfold stepP; rw [dif_pos hlt2, if_pos he]
          rw [e] at ih' ⊢
          rw [Int.toNat_natCast]
          exact Ev.pos (decide_eq_true he) (Ev.pos (by omega) (Ev.pos (by omega) ih'))
        · have e : stepP l p = l.take (posP l p.f0) ++ [p] ++ l.drop (posP l p.f0) := by unfold stepP; rw [dif_pos hlt2, if_neg he]
          have e2 : label_Pair_52.f l (posP l p.f0 : Int) [p] = some (stepP l p) := by
            unfold label_Pair_52.f
            rw [if_pos ⟨by omega, by omega, rfl, by omega⟩, Int.toNat_natCast, e]
          refine Ev.neg (by rw [decide_eq_true_eq]; exact he) ?_
          show Ev (fun k => (label_Pair_52.f l (posP l p.f0 : Int) [p]).bind fun t => label_Of.l0 k t L (L.length : Int) ((i + 1 : Nat) : Int)) _
          rw [e2]
          exact Ev.one ih'
      · rw [dif_neg hlt2]
        have e0 : posP l p.f0 = l.length := by omega
        have e : stepP l p = l ++ [p] := by unfold stepP; rw [dif_neg hlt2]
        have e2 : label_Pair_52.f l (posP l p.f0 : Int) [p] = some (stepP l p) := by
          unfold label_Pair_52.f
          rw [if_pos ⟨by omega, by omega, rfl, by omega⟩, Int.toNat_natCast, e0, List.take_length, List.drop_length, List.append_nil, e]
        refine Ev.neg (by decide) ?_
        show Ev (fun k => (label_Pair_52.f l (posP l p.f0 : Int) [p]).bind fun t => label_Of.l0 k t L (L.length : Int) ((i + 1 : Nat) : Int)) _
        rw [e2]
        exact Ev.one ih'
    · rw [if_neg hn]
      have ih' := ih (i + 1) l (by omega) (by omega) (by omega) hr
      unfold ofP at ih'
      exact Ev.neg hn ih'
theorem of_ev (L : List Lab) (hL : L.length ≤ 1000000) : Ev (fun k => label_Of.f k L) (ofP [] L) := by
  have h := of_loop L hL L.length 0 [] rfl (Nat.zero_le _) (Nat.zero_le _) List.Pairwise.nil
  rw [List.drop_zero] at h
  exact h
end Go.Proofs.Ytbkhgldinmabiaa.B
