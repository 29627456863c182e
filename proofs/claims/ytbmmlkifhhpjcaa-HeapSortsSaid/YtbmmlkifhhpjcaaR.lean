/- What the laws of the heap ask, in plain Lean: the first of those alike goes first; all that go are in order. -/
import Derived.Test.YtbmmlkifhhpjcaaO
set_option linter.unusedVariables false
set_option linter.unusedSectionVars false
set_option linter.unusedSimpArgs false
namespace Go.Proofs.Ytbmmlkifhhpjcaa
section
variable {β : Type} [Inhabited β] {key at_ : β → Int}
theorem filter_first (p : β → Bool) : ∀ (Q : List β) (a : β) (t : List β), Q.filter p = a :: t → ∃ (j : Nat) (h : j < Q.length), Q[j] = a ∧ p a = true ∧ (∀ i (h2 : i < j), p (Q[i]'(by omega)) = false) ∧ (Q.eraseIdx j).filter p = t
  | [], a, t, h => by simp at h
  | x :: Q, a, t, h => by
    by_cases hx : p x = true
    · rw [List.filter_cons_of_pos hx] at h
      injection h with h1 h2
      subst h1
      exact ⟨0, by simp, rfl, hx, fun i h2 => absurd h2 (by omega), by simpa using h2⟩
    · rw [List.filter_cons_of_neg hx] at h
      obtain ⟨j, hj, h1, h2, h3, h4⟩ := filter_first p Q a t h
      refine ⟨j + 1, by simpa using hj, by simpa using h1, h2, fun i hi => ?_, ?_⟩
      · cases i with
        | zero => simpa using hx
        | succ i => simpa using h3 i (by omega)
      · rw [List.eraseIdx_cons_succ, List.filter_cons_of_neg hx]
        exact h4
theorem turn_step {L Q : List β} (hp : Hp (ahK key at_) L) (hP : L.Perm Q) (hQ : Rise at_ Q) {least : Int} (hk : ∀ y ∈ Q, least ≤ key y) {a : β} {t : List β} (hf : Q.filter (fun y => key y == least) = a :: t) :
    hgt L 0 = a ∧ Hp (ahK key at_) (popF (ahK key at_) L) ∧ key a = least ∧ ∃ Q', (popF (ahK key at_) L).Perm Q' ∧ Rise at_ Q' ∧ (∀ y ∈ Q', y ∈ Q) ∧ Q'.filter (fun y => key y == least) = t ∧ Q'.length + 1 = Q.length := by
  obtain ⟨j, hj, h1, h2, h3, h4⟩ := filter_first _ _ _ _ hf
  have ha : key a = least := by simpa using h2
  have := pop_queue hp hP hQ hj (fun i hi => by rw [h1, ha]; exact hk _ (List.getElem_mem hi)) (fun i hi => by
    have h5 := h3 i hi
    have h6 := hk _ (List.getElem_mem (show i < Q.length by omega))
    have h7 : ¬ key (Q[i]'(by omega)) = least := by simpa using h5
    rw [h1, ha]
    omega)
  refine ⟨this.1.trans h1, this.2.1, ha, Q.eraseIdx j, this.2.2, hQ.erase j, fun y hy => (List.eraseIdx_sublist Q j).subset hy, h4, ?_⟩
  have h8 := List.length_eraseIdx_of_lt hj
  omega
/-- a list that has been turned i times -/
def Turned (F G : List Int) (i : Nat) : Prop := F.length = G.length ∧ ∀ t, t < G.length → F.getD t 0 = G.getD ((i + t) % G.length) 0
theorem Turned.zero (G : List Int) : Turned G G 0 := ⟨rfl, fun t ht => by rw [Nat.zero_add, Nat.mod_eq_of_lt ht]⟩
theorem Turned.step {F G : List Int} {x : Int} {i : Nat} (h : Turned (x :: F) G i) : Turned (F ++ [x]) G (i + 1) := by
  obtain ⟨h1, h2⟩ := h
  have hl : F.length + 1 = G.length := by simpa using h1
  refine ⟨by simpa using h1, fun t ht => ?_⟩
  by_cases e : t < F.length
  · have := h2 (t + 1) (by omega)
    rw [List.getD_eq_getElem?_getD, List.getElem?_append_left e]
    rw [List.getD_cons_succ, List.getD_eq_getElem?_getD] at this
    rw [this]
    congr 1
    congr 1
    omega
  · have e2 : t = F.length := by omega
    subst e2
    have := h2 0 (by omega)
    rw [List.getD_eq_getElem?_getD, List.getElem?_append_right (Nat.le_refl _), Nat.sub_self]
    rw [List.getD_cons_zero, Nat.add_zero] at this
    show x = _
    rw [this]
    congr 1
    rw [show i + 1 + F.length = i + G.length by omega, Nat.add_mod_right]
theorem Turned.head {F G : List Int} {x : Int} {i : Nat} (h : Turned (x :: F) G i) : 0 < G.length ∧ x = G.getD (i % G.length) 0 := by
  have hl : F.length + 1 = G.length := by simpa using h.1
  have := h.2 0 (by omega)
  rw [List.getD_cons_zero, Nat.add_zero] at this
  exact ⟨by omega, this⟩
/-- of a drained list the next one is what a heap of the same gives -/
theorem drain_next {L D : List β} {Q : List β} {d : β} (hp : Hp (ahK key at_) L) (hP : L.Perm (d :: D)) (hS : (d :: D).Pairwise (fun a b => ahK key at_ b a = false)) (hQ : Rise at_ Q) (hD : ∀ y ∈ d :: D, y ∈ Q) :
    0 < L.length ∧ hgt L 0 = d ∧ Hp (ahK key at_) (popF (ahK key at_) L) ∧ (popF (ahK key at_) L).Perm D := by
  have hl : 0 < L.length := by rw [hP.length_eq]; simp
  have O := ahK_ord key at_
  have hs := popF_spec O L hp hl
  have hm : hgt L 0 ∈ d :: D := hP.mem_iff.1 (hgt_mem L 0 hl)
  have hd : d ∈ L := hP.mem_iff.2 List.mem_cons_self
  have h1 : ahK key at_ (hgt L 0) d = false := by
    rcases List.mem_cons.1 hm with h | h
    · rw [h]; exact O.irr _
    · exact (List.pairwise_cons.1 hS).1 _ h
  have e : hgt L 0 = d := least_one (key := key) hQ (hD _ hm) (hD _ List.mem_cons_self) h1 (hp.least O _ hd)
  refine ⟨hl, e, hs.1, ?_⟩
  have h5 := hs.2.symm.trans hP
  rw [e] at h5
  exact h5.cons_inv
/-- what is popped is no more than what is left -/
theorem least_step {L : List β} (hp : Hp (ahK key at_) L) (hl : 0 < L.length) : Hp (ahK key at_) (popF (ahK key at_) L) ∧ (popF (ahK key at_) L).length + 1 = L.length ∧ hgt L 0 ∈ L ∧ ∀ y ∈ popF (ahK key at_) L, key (hgt L 0) ≤ key y := by
  have O := ahK_ord key at_
  have hs := popF_spec O L hp hl
  refine ⟨hs.1, popF_len O L hp hl, hgt_mem L 0 hl, fun y hy => ?_⟩
  have := hp.least O y (hs.2.mem_iff.2 (List.mem_cons_of_mem _ hy))
  rw [ahK_no] at this
  omega
end
end Go.Proofs.Ytbmmlkifhhpjcaa
