/- The heap in plain Lean: a list as a tree; what goes up and down keeps it a heap, and all that is in it. -/

set_option linter.unusedVariables false
set_option linter.unusedSectionVars false
set_option linter.unusedSimpArgs false
namespace Go.Proofs.Ytbmmlkifhhpjcaa
section
variable {β : Type} [Inhabited β]
def hgt (l : List β) (i : Nat) : β := l.getD i default
def swp (l : List β) (i j : Nat) : List β := (l.set i (hgt l j)).set j (hgt l i)
theorem hgt_set (l : List β) (i : Nat) (x : β) (t : Nat) (hi : i < l.length) : hgt (l.set i x) t = if t = i then x else hgt l t := by
  unfold hgt
  rw [List.getD_eq_getElem?_getD, List.getD_eq_getElem?_getD, List.getElem?_set]
  by_cases h : i = t
  · subst h
    simp [hi]
  · have h2 : ¬ t = i := fun e => h e.symm
    rw [if_neg h, if_neg h2]
theorem swp_len (l : List β) (i j : Nat) : (swp l i j).length = l.length := by simp [swp]
theorem hgt_swp (l : List β) (i j t : Nat) (hi : i < l.length) (hj : j < l.length) : hgt (swp l i j) t = if t = j then hgt l i else if t = i then hgt l j else hgt l t := by
  unfold swp
  rw [hgt_set _ _ _ _ (by simpa using hj), hgt_set _ _ _ _ hi]
theorem hgt_eq (l : List β) (i : Nat) (hi : i < l.length) : hgt l i = l[i] := by
  unfold hgt
  rw [List.getD_eq_getElem?_getD, List.getElem?_eq_getElem hi]
  rfl
theorem hgt_mem (l : List β) (i : Nat) (hi : i < l.length) : hgt l i ∈ l := by
  rw [hgt_eq l i hi]
  exact List.getElem_mem hi
theorem swp_perm (l : List β) (i j : Nat) (hi : i < l.length) (hj : j < l.length) : (swp l i j).Perm l := by
  unfold swp
  rw [hgt_eq l i hi, hgt_eq l j hj]
  exact List.set_set_perm hi hj
variable (ah : β → β → Bool)
/-- what stands at k goes up -/
def upF (l : List β) (k : Nat) : List β :=
  if h : 0 < k ∧ ah (hgt l k) (hgt l ((k - 1) / 2)) = true then upF (swp l k ((k - 1) / 2)) ((k - 1) / 2) else l
  termination_by k
  decreasing_by omega
def kid1 (l : List β) (k : Nat) : Nat := if 2 * k + 1 < l.length ∧ ah (hgt l (2 * k + 1)) (hgt l k) = true then 2 * k + 1 else k
def kid2 (l : List β) (k : Nat) : Nat := if 2 * k + 2 < l.length ∧ ah (hgt l (2 * k + 2)) (hgt l (kid1 ah l k)) = true then 2 * k + 2 else kid1 ah l k
theorem kid1_cases (l : List β) (k : Nat) : kid1 ah l k = k ∨ (kid1 ah l k = 2 * k + 1 ∧ 2 * k + 1 < l.length) := by
  unfold kid1
  split
  · rename_i h
    exact .inr ⟨rfl, h.1⟩
  · exact .inl rfl
theorem kid2_cases (l : List β) (k : Nat) : kid2 ah l k = k ∨ (k < kid2 ah l k ∧ kid2 ah l k < l.length ∧ (kid2 ah l k = 2 * k + 1 ∨ kid2 ah l k = 2 * k + 2)) := by
  unfold kid2
  split
  · rename_i h
    exact .inr ⟨by omega, h.1, .inr rfl⟩
  · rcases kid1_cases ah l k with h | h
    · exact .inl h
    · exact .inr ⟨by omega, by omega, .inl h.1⟩
/-- what stands at k goes down -/
def downF (l : List β) (k : Nat) : List β :=
  if h : kid2 ah l k = k then l else downF (swp l k (kid2 ah l k)) (kid2 ah l k)
  termination_by l.length - k
  decreasing_by
    rw [swp_len]
    have := kid2_cases ah l k
    omega
def pushF (l : List β) (x : β) : List β := upF ah (l ++ [x]) l.length
def popF (l : List β) : List β := downF ah ((l.set 0 (hgt l (l.length - 1))).take (l.length - 1)) 0
/-- an order: none is ahead of itself, and 'not ahead' goes on -/
structure HOrd : Prop where
  asym : ∀ a b, ah a b = true → ah b a = false
  trans : ∀ a b c, ah a b = false → ah b c = false → ah a c = false
variable {ah}
theorem HOrd.irr (O : HOrd ah) (a : β) : ah a a = false := by
  by_cases h : ah a a = true
  · exact O.asym a a h
  · simpa using h
variable (ah)
def Hp (l : List β) : Prop := ∀ i, 0 < i → i < l.length → ah (hgt l i) (hgt l ((i - 1) / 2)) = false
def UpInv (l : List β) (k : Nat) : Prop :=
  (∀ i, 0 < i → i < l.length → i ≠ k → ah (hgt l i) (hgt l ((i - 1) / 2)) = false) ∧
  (∀ i, 0 < i → i < l.length → (i - 1) / 2 = k → 0 < k → ah (hgt l i) (hgt l ((k - 1) / 2)) = false)
def DownInv (l : List β) (k : Nat) : Prop :=
  (∀ i, 0 < i → i < l.length → (i - 1) / 2 ≠ k → ah (hgt l i) (hgt l ((i - 1) / 2)) = false) ∧
  (∀ i, 0 < i → i < l.length → (i - 1) / 2 = k → 0 < k → ah (hgt l i) (hgt l ((k - 1) / 2)) = false)
variable {ah}
theorem upF_spec (O : HOrd ah) : ∀ (k : Nat) (l : List β), k < l.length → UpInv ah l k → Hp ah (upF ah l k) ∧ (upF ah l k).Perm l := by
  intro k
  induction k using Nat.strongRecOn with
  | ind k ih =>
    intro l hk hI
    rw [upF]
    split
    · rename_i h
      obtain ⟨h0, h1⟩ := h
      obtain ⟨p, hp⟩ : ∃ p, (k - 1) / 2 = p := ⟨_, rfl⟩
      have hpk : p < k := by omega
      rw [hp] at h1 ⊢
      have hpl : p < l.length := by omega
      have h2 := O.asym _ _ h1
      have hI2 : UpInv ah (swp l k p) p := by
        obtain ⟨I1, I2⟩ := hI
        refine ⟨fun i hi hil hip => ?_, fun i hi hil hip hp0 => ?_⟩
        · rw [swp_len] at hil
          rw [hgt_swp l k p i hk hpl, hgt_swp l k p _ hk hpl, if_neg hip]
          by_cases e1 : i = k
          · subst e1
            rw [if_pos rfl, hp, if_pos rfl]
            exact h2
          · rw [if_neg e1]
            by_cases e2 : (i - 1) / 2 = p
            · rw [if_pos e2]
              have := I1 i hi hil e1
              rw [e2] at this
              exact O.trans _ _ _ this h2
            · rw [if_neg e2]
              by_cases e3 : (i - 1) / 2 = k
              · rw [if_pos e3]
                have := I2 i hi hil e3 h0
                rwa [hp] at this
              · rw [if_neg e3]
                exact I1 i hi hil e1
        · rw [swp_len] at hil
          have hpp : (p - 1) / 2 ≠ p := by omega
          have hpq : (p - 1) / 2 ≠ k := by omega
          have hip2 : i ≠ p := by omega
          rw [hgt_swp l k p i hk hpl, hgt_swp l k p _ hk hpl, if_neg hip2, if_neg hpp, if_neg hpq]
          have h5 := I1 p hp0 hpl (by omega)
          by_cases e1 : i = k
          · rw [if_pos e1]
            exact h5
          · rw [if_neg e1]
            have := I1 i hi hil e1
            rw [hip] at this
            exact O.trans _ _ _ this h5
      have := ih p hpk (swp l k p) (by rw [swp_len]; exact hpl) hI2
      exact ⟨this.1, this.2.trans (swp_perm l k p hk hpl)⟩
    · rename_i h
      refine ⟨fun i hi hil => ?_, List.Perm.refl _⟩
      by_cases e : i = k
      · subst e
        have : ¬ ah (hgt l i) (hgt l ((i - 1) / 2)) = true := fun h1 => h ⟨hi, h1⟩
        simpa using this
      · exact hI.1 i hi hil e
theorem kid2_least (O : HOrd ah) (l : List β) (k : Nat) : ∀ i, 0 < i → i < l.length → (i - 1) / 2 = k → ah (hgt l i) (hgt l (kid2 ah l k)) = false := by
  intro i hi hil hp
  have hk1 : 2 * k + 1 < l.length → ah (hgt l (2 * k + 1)) (hgt l (kid1 ah l k)) = false := by
    intro h
    unfold kid1
    split
    · exact O.irr _
    · rename_i h1
      have : ¬ ah (hgt l (2 * k + 1)) (hgt l k) = true := fun h2 => h1 ⟨h, h2⟩
      simpa using this
  rcases (show i = 2 * k + 1 ∨ i = 2 * k + 2 by omega) with rfl | rfl
  · unfold kid2
    split
    · rename_i h
      exact O.trans _ _ _ (hk1 hil) (O.asym _ _ h.2)
    · exact hk1 hil
  · unfold kid2
    split
    · exact O.irr _
    · rename_i h
      have : ¬ ah (hgt l (2 * k + 2)) (hgt l (kid1 ah l k)) = true := fun h2 => h ⟨hil, h2⟩
      simpa using this
theorem kid2_ahead (O : HOrd ah) (l : List β) (k : Nat) : ah (hgt l k) (hgt l (kid2 ah l k)) = false := by
  have h1 : ah (hgt l k) (hgt l (kid1 ah l k)) = false := by
    unfold kid1
    split
    · rename_i h
      exact O.asym _ _ h.2
    · exact O.irr _
  unfold kid2
  split
  · rename_i h
    exact O.trans _ _ _ h1 (O.asym _ _ h.2)
  · exact h1
theorem downF_spec (O : HOrd ah) : ∀ (n k : Nat) (l : List β), l.length - k ≤ n → DownInv ah l k → Hp ah (downF ah l k) ∧ (downF ah l k).Perm l := by
  intro n
  induction n with
  | zero =>
    intro k l hn hI
    rw [downF]
    split
    · rename_i h
      refine ⟨fun i hi hil => ?_, List.Perm.refl _⟩
      exact hI.1 i hi hil (by omega)
    · rename_i h
      have := kid2_cases ah l k
      omega
  | succ n ih =>
    intro k l hn hI
    rw [downF]
    split
    · rename_i h
      refine ⟨fun i hi hil => ?_, List.Perm.refl _⟩
      by_cases e : (i - 1) / 2 = k
      · have := kid2_least O l k i hi hil e
        rw [h] at this
        rwa [e]
      · exact hI.1 i hi hil e
    · rename_i h
      obtain ⟨m, hm⟩ : ∃ m, kid2 ah l k = m := ⟨_, rfl⟩
      have hc := kid2_cases ah l k
      have hl := kid2_least O l k
      have ha := kid2_ahead O l k
      rw [hm] at h hc hl ha ⊢
      have hkm : k < m := by omega
      have hml : m < l.length := by omega
      have hmk : (m - 1) / 2 = k := by omega
      have hkl : k < l.length := by omega
      obtain ⟨I1, I2⟩ := hI
      have hI2 : DownInv ah (swp l k m) m := by
        refine ⟨fun i hi hil hip => ?_, fun i hi hil hip hp0 => ?_⟩
        · rw [swp_len] at hil
          rw [hgt_swp l k m i hkl hml, hgt_swp l k m _ hkl hml, if_neg hip]
          by_cases e1 : i = m
          · subst e1
            rw [if_pos rfl, hmk, if_pos rfl]
            exact ha
          · rw [if_neg e1]
            by_cases e2 : i = k
            · subst e2
              have e3 : ¬ (i - 1) / 2 = i := by omega
              rw [if_pos rfl, if_neg e3]
              exact I2 m (by omega) hml hmk hi
            · rw [if_neg e2]
              by_cases e3 : (i - 1) / 2 = k
              · rw [if_pos e3]
                exact hl i hi hil e3
              · rw [if_neg e3]
                exact I1 i hi hil e3
        · rw [swp_len] at hil
          have e1 : i ≠ m := by omega
          have e2 : i ≠ k := by omega
          rw [hgt_swp l k m i hkl hml, hgt_swp l k m _ hkl hml, hmk, if_neg e1, if_neg e2, if_neg (by omega), if_pos rfl]
          have := I1 i hi hil (by omega)
          rwa [hip] at this
      have := ih m (swp l k m) (by rw [swp_len]; omega) hI2
      exact ⟨this.1, this.2.trans (swp_perm l k m hkl hml)⟩
theorem hgt_append (l : List β) (x : β) (i : Nat) (hi : i < l.length) : hgt (l ++ [x]) i = hgt l i := by
  unfold hgt
  rw [List.getD_eq_getElem?_getD, List.getD_eq_getElem?_getD, List.getElem?_append_left hi]
theorem pushF_spec (O : HOrd ah) (l : List β) (x : β) (h : Hp ah l) : Hp ah (pushF ah l x) ∧ (pushF ah l x).Perm (l ++ [x]) := by
  unfold pushF
  refine upF_spec O _ _ (by simp) ⟨fun i hi hil hne => ?_, fun i hi hil hp h0 => ?_⟩
  · rw [List.length_append] at hil
    simp only [List.length_cons, List.length_nil] at hil
    rw [hgt_append _ _ _ (by omega), hgt_append _ _ _ (by omega)]
    exact h i hi (by omega)
  · rw [List.length_append] at hil
    simp only [List.length_cons, List.length_nil] at hil
    omega
theorem hgt_take (l : List β) (n i : Nat) (h : i < n) : hgt (l.take n) i = hgt l i := by
  unfold hgt
  rw [List.getD_eq_getElem?_getD, List.getD_eq_getElem?_getD, List.getElem?_take, if_pos h]
theorem Hp.root (O : HOrd ah) {l : List β} (h : Hp ah l) : ∀ i, i < l.length → ah (hgt l i) (hgt l 0) = false := by
  intro i
  induction i using Nat.strongRecOn with
  | ind i ih =>
    intro hi
    by_cases h0 : i = 0
    · subst h0
      exact O.irr _
    · exact O.trans _ _ _ (h i (by omega) hi) (ih ((i - 1) / 2) (by omega) (by omega))
theorem Hp.least (O : HOrd ah) {l : List β} (h : Hp ah l) : ∀ y ∈ l, ah y (hgt l 0) = false := by
  intro y hy
  obtain ⟨i, hi, rfl⟩ := List.getElem_of_mem hy
  rw [← hgt_eq l i hi]
  exact h.root O i hi
theorem pop_perm (l : List β) (h : 0 < l.length) : l.Perm (hgt l 0 :: (l.set 0 (hgt l (l.length - 1))).take (l.length - 1)) := by
  cases l with
  | nil => exact absurd h (by simp)
  | cons x t =>
    rcases List.eq_nil_or_concat t with rfl | ⟨t, y, rfl⟩
    · simp [hgt]
    · have e : hgt (x :: t.concat y) ((x :: t.concat y).length - 1) = y := by
        simp [hgt]
      rw [e]
      have : ((x :: t.concat y).set 0 y).take ((x :: t.concat y).length - 1) = y :: t := by
        simp
      rw [this]
      show List.Perm (x :: t.concat y) (x :: y :: t)
      rw [List.concat_eq_append]
      exact List.Perm.cons _ (List.perm_append_comm (l₁ := t) (l₂ := [y]))
theorem popF_spec (O : HOrd ah) (l : List β) (h : Hp ah l) (h0 : 0 < l.length) : Hp ah (popF ah l) ∧ l.Perm (hgt l 0 :: popF ah l) := by
  have hs : DownInv ah ((l.set 0 (hgt l (l.length - 1))).take (l.length - 1)) 0 := by
    refine ⟨fun i hi hil hne => ?_, fun i hi hil hp h0 => absurd h0 (by omega)⟩
    rw [List.length_take, List.length_set] at hil
    rw [hgt_take _ _ _ (by omega), hgt_take _ _ _ (by omega), hgt_set _ _ _ _ h0, hgt_set _ _ _ _ h0, if_neg (by omega), if_neg hne]
    exact h i hi (by omega)
  have := downF_spec O _ 0 _ (Nat.le_refl _) hs
  exact ⟨this.1, (pop_perm l h0).trans (List.Perm.cons _ this.2.symm)⟩
theorem popF_len (O : HOrd ah) (l : List β) (h : Hp ah l) (h0 : 0 < l.length) : (popF ah l).length + 1 = l.length := by
  have := (popF_spec O l h h0).2.length_eq
  simpa using this.symm
theorem pushF_len (O : HOrd ah) (l : List β) (x : β) (h : Hp ah l) : (pushF ah l x).length = l.length + 1 := by
  have := (pushF_spec O l x h).2.length_eq
  simpa using this
theorem Hp.nil : Hp ah ([] : List β) := fun i _ hi => absurd hi (by simp)
end
end Go.Proofs.Ytbmmlkifhhpjcaa
