/- The heap against a queue: what is in it in the order in which it came; what goes is the first of the least. -/
import Derived.Test.YtbmmlkifhhpjcaaL
set_option linter.unusedVariables false
set_option linter.unusedSectionVars false
set_option linter.unusedSimpArgs false
namespace Go.Proofs.Ytbmmlkifhhpjcaa
section
variable {β : Type} [Inhabited β] (key at_ : β → Int)
def ahK (a b : β) : Bool := decide (key a < key b) || (!decide (key b < key a) && decide (at_ a < at_ b))
theorem ahK_no {a b : β} : ahK key at_ a b = false ↔ key b < key a ∨ (key b = key a ∧ at_ b ≤ at_ a) := by
  unfold ahK
  rw [Bool.or_eq_false_iff, Bool.and_eq_false_iff, decide_eq_false_iff_not, Bool.not_eq_false', decide_eq_true_iff, decide_eq_false_iff_not]
  omega
theorem ahK_ord : HOrd (ahK key at_) := by
  refine ⟨fun a b h => ?_, fun a b c h1 h2 => ?_⟩
  · rw [ahK_no]
    have : ¬ ahK key at_ a b = false := by simp [h]
    rw [ahK_no] at this
    omega
  · rw [ahK_no] at *
    omega
def Rise (Q : List β) : Prop := Q.Pairwise fun a b => at_ a < at_ b
variable {key at_}
theorem least_one {Q : List β} (hQ : Rise at_ Q) {r s : β} (hr : r ∈ Q) (hs : s ∈ Q) (h1 : ahK key at_ r s = false) (h2 : ahK key at_ s r = false) : r = s := by
  rw [ahK_no] at h1 h2
  have he : at_ r = at_ s := by omega
  obtain ⟨i, hi, rfl⟩ := List.getElem_of_mem hr
  obtain ⟨j, hj, rfl⟩ := List.getElem_of_mem hs
  have hp := List.pairwise_iff_getElem.1 hQ
  rcases Nat.lt_trichotomy i j with h | h | h
  · have := hp i j hi hj h
    omega
  · subst h
    rfl
  · have := hp j i hj hi h
    omega
theorem first_least {Q : List β} (hQ : Rise at_ Q) {j : Nat} (hj : j < Q.length) (h1 : ∀ i (h : i < Q.length), key Q[j] ≤ key Q[i]) (h2 : ∀ i (h : i < j), key Q[j] < key (Q[i]'(by omega))) : ∀ y ∈ Q, ahK key at_ y Q[j] = false := by
  intro y hy
  obtain ⟨i, hi, rfl⟩ := List.getElem_of_mem hy
  rw [ahK_no]
  have hp := List.pairwise_iff_getElem.1 hQ
  rcases Nat.lt_trichotomy i j with h | h | h
  · exact .inl (h2 i h)
  · subst h
    exact .inr ⟨rfl, Int.le_refl _⟩
  · have := hp j i hj hi h
    have := h1 i hi
    omega
theorem perm_eraseIdx : ∀ (Q : List β) (j : Nat) (hj : j < Q.length), Q.Perm (Q[j] :: Q.eraseIdx j)
  | [], j, hj => absurd hj (by simp)
  | x :: Q, 0, _ => by simp
  | x :: Q, j + 1, hj => by
    have ih := perm_eraseIdx Q j (by simpa using hj)
    simp only [List.getElem_cons_succ, List.eraseIdx_cons_succ]
    exact (List.Perm.cons x ih).trans (List.Perm.swap _ _ _)
/-- what goes of a heap is the first of the least of its queue -/
theorem pop_queue {L Q : List β} (hp : Hp (ahK key at_) L) (hP : L.Perm Q) (hQ : Rise at_ Q) {j : Nat} (hj : j < Q.length) (h1 : ∀ i (h : i < Q.length), key Q[j] ≤ key Q[i]) (h2 : ∀ i (h : i < j), key Q[j] < key (Q[i]'(by omega))) :
    hgt L 0 = Q[j] ∧ Hp (ahK key at_) (popF (ahK key at_) L) ∧ (popF (ahK key at_) L).Perm (Q.eraseIdx j) := by
  have hl : 0 < L.length := by rw [hP.length_eq]; omega
  have O := ahK_ord key at_
  have hs := popF_spec O L hp hl
  have hm : hgt L 0 ∈ Q := hP.mem_iff.1 (hgt_mem L 0 hl)
  have hj2 : Q[j] ∈ L := hP.mem_iff.2 (List.getElem_mem hj)
  have e : hgt L 0 = Q[j] := least_one (key := key) hQ hm (List.getElem_mem hj) (first_least hQ hj h1 h2 _ hm) (hp.least O _ hj2)
  refine ⟨e, hs.1, ?_⟩
  have h5 := hs.2.symm.trans (hP.trans (perm_eraseIdx Q j hj))
  rw [e] at h5
  exact h5.cons_inv
theorem Rise.erase {Q : List β} (h : Rise at_ Q) (j : Nat) : Rise at_ (Q.eraseIdx j) := h.sublist (List.eraseIdx_sublist _ _)
theorem Rise.snoc {Q : List β} (h : Rise at_ Q) {x : β} (hx : ∀ y ∈ Q, at_ y < at_ x) : Rise at_ (Q ++ [x]) := by
  refine List.pairwise_append.2 ⟨h, by simp, fun a ha b hb => ?_⟩
  obtain rfl := List.mem_singleton.1 hb
  exact hx a ha
theorem push_queue {L Q : List β} (hp : Hp (ahK key at_) L) (hP : L.Perm Q) (x : β) : Hp (ahK key at_) (pushF (ahK key at_) L x) ∧ (pushF (ahK key at_) L x).Perm (Q ++ [x]) := by
  have := pushF_spec (ahK_ord key at_) L x hp
  exact ⟨this.1, this.2.trans (List.Perm.append_right _ hP)⟩
end
section
variable {α β : Type} [Inhabited β] (ah : β → β → Bool) (mk : α → Int → β)
/-- things come one by one, each with its number -/
def pushL : List β → Int → List α → List β
  | L, _, [] => L
  | L, c, x :: xs => pushL (pushF ah L (mk x c)) (c + 1) xs
def stamp : Int → List α → List β
  | _, [] => []
  | c, x :: xs => mk x c :: stamp (c + 1) xs
theorem stamp_len : ∀ (xs : List α) (c : Int), (stamp mk c xs).length = xs.length
  | [], _ => rfl
  | x :: xs, c => by simp [stamp, stamp_len xs]
theorem stamp_get : ∀ (xs : List α) (c : Int) (i : Nat) (h : i < xs.length), (stamp mk c xs)[i]'(by rw [stamp_len]; exact h) = mk xs[i] (c + i)
  | [], _, i, h => absurd h (by simp)
  | x :: xs, c, 0, _ => by simp [stamp]
  | x :: xs, c, i + 1, h => by
    have := stamp_get xs (c + 1) i (by simpa using h)
    simp only [stamp, List.getElem_cons_succ, this]
    congr 1
    omega
theorem stamp_append : ∀ (xs ys : List α) (c : Int), stamp mk c (xs ++ ys) = stamp mk c xs ++ stamp mk (c + xs.length) ys
  | [], ys, c => by simp [stamp]
  | x :: xs, ys, c => by
    have : (c + 1 + (xs.length : Int)) = c + ((x :: xs).length : Int) := by simp only [List.length_cons]; omega
    simp only [List.cons_append, stamp, stamp_append xs ys (c + 1), this]
variable {ah}
theorem pushL_spec (O : HOrd ah) : ∀ (xs : List α) (L Q : List β) (c : Int), Hp ah L → L.Perm Q → Hp ah (pushL ah mk L c xs) ∧ (pushL ah mk L c xs).Perm (Q ++ stamp mk c xs)
  | [], L, Q, c, h, hP => by simpa [pushL, stamp] using ⟨h, hP⟩
  | x :: xs, L, Q, c, h, hP => by
    have h1 := pushF_spec O L (mk x c) h
    have := pushL_spec O xs _ (Q ++ [mk x c]) (c + 1) h1.1 (h1.2.trans (List.Perm.append_right _ hP))
    rw [List.append_assoc] at this
    exact this
theorem pushL_len (O : HOrd ah) (xs : List α) (L : List β) (c : Int) (h : Hp ah L) : (pushL ah mk L c xs).length = L.length + xs.length := by
  have := (pushL_spec mk O xs L L c h (List.Perm.refl _)).2.length_eq
  rw [this, List.length_append, stamp_len]
theorem stamp_rise (at_ : β → Int) (hm : ∀ x c, at_ (mk x c) = c) : ∀ (xs : List α) (c : Int), Rise at_ (stamp mk c xs) ∧ ∀ y ∈ stamp mk c xs, c ≤ at_ y ∧ at_ y < c + xs.length
  | [], c => ⟨List.Pairwise.nil, fun y hy => by simp [stamp] at hy⟩
  | x :: xs, c => by
    have ih := stamp_rise at_ hm xs (c + 1)
    refine ⟨List.pairwise_cons.2 ⟨fun y hy => ?_, ih.1⟩, fun y hy => ?_⟩
    · rw [hm]
      have := (ih.2 y hy).1
      omega
    · rcases List.mem_cons.1 hy with rfl | hy
      · rw [hm]
        simp only [List.length_cons]
        omega
      · have := ih.2 y hy
        simp only [List.length_cons]
        omega
variable (ah)
/-- all go, one by one -/
def drainF : Nat → List β → List β
  | 0, _ => []
  | n + 1, L => hgt L 0 :: drainF n (popF ah L)
variable {ah}
theorem drainF_spec (O : HOrd ah) : ∀ (n : Nat) (L : List β), Hp ah L → L.length = n → (drainF ah n L).length = n ∧ (drainF ah n L).Perm L ∧ (drainF ah n L).Pairwise (fun a b => ah b a = false)
  | 0, L, _, h => by
    obtain rfl := List.eq_nil_of_length_eq_zero h
    exact ⟨rfl, List.Perm.refl _, List.Pairwise.nil⟩
  | n + 1, L, hp, h => by
    have hs := popF_spec O L hp (by omega)
    have hl := popF_len O L hp (by omega)
    have ih := drainF_spec O n _ hs.1 (by omega)
    refine ⟨by simp [drainF, ih.1], (List.Perm.cons _ ih.2.1).trans hs.2.symm, List.pairwise_cons.2 ⟨fun y hy => ?_, ih.2.2⟩⟩
    exact hp.least O y (hs.2.mem_iff.2 (List.mem_cons_of_mem _ (ih.2.1.mem_iff.1 hy)))
end
end Go.Proofs.Ytbmmlkifhhpjcaa
