/-
 The plain texts of the seat Ytaehlbbjbeibfaa in one.
-/
import Derived.Test.YtaehlbbjbeibfaaProg
import Derived.Below
import Derived.Deep.Draws
import Derived.Deep.AppendLies
import Derived.Maps.AppendAt
import Derived.OwnWalk
import Derived.Laws.BytesArg
import Derived.Laws.MakeOwn
import Derived.Laws.OwnMore
import Derived.Deep.OwnRows
import Derived.Tactics
import Derived.Lib.ConvBytes
import Derived.Laws.Slices
import Derived.WalkKit
import Derived.KernelRfl
import Derived.RowKit3
import Derived.Deep.LoopGhost
import Derived.Deep.QuietTactic
import Derived.BigQuiet
import Derived.BigRegion
import Derived.WideLaws
import Derived.Deep.DeepCutAuto
import Derived.Deep.CutBlock
import Derived.Deep.RegionHeld3
import Derived.Laws.Rows
import Derived.Lib.AppendStr
import Derived.ArgAppend
import Derived.Laws.IdiomCopy
import Derived.OrdersHeld
import Derived.Laws.BitsLemmas
import Derived.RowKit
import Derived.Test.YtaehlbbjbeibfaaWWords
import Derived.Test.YtaehlbbjbeibfaaWLast
import Derived.Test.YtaehlbbjbeibfaaWTab
import Derived.Test.YtaehlbbjbeibfaaWFour
import Derived.Test.YtaehlbbjbeibfaaWQPut
import Derived.Test.YtaehlbbjbeibfaaWApart
import Derived.Test.YtaehlbbjbeibfaaWArr
import Derived.Test.YtaehlbbjbeibfaaWZeros
import Derived.Test.YtaehlbbjbeibfaaWFoot
import Derived.Test.YtaehlbbjbeibfaaWKept
import Derived.Test.YtaehlbbjbeibfaaWShare
import Derived.Test.YtaehlbbjbeibfaaWN
import Derived.Test.YtaehlbbjbeibfaaWFootNe
import Derived.Test.YtaehlbbjbeibfaaWAt
import Derived.Test.YtaehlbbjbeibfaaWEqStruct
import Derived.Test.YtaehlbbjbeibfaaWRepsOne
import Derived.Test.YtaehlbbjbeibfaaWInv
import Derived.Test.YtaehlbbjbeibfaaWInvWords
import Derived.Test.YtaehlbbjbeibfaaWGuard
import Derived.Test.YtaehlbbjbeibfaaWNEv
import Derived.Test.YtaehlbbjbeibfaaWMore
import Derived.Test.YtaehlbbjbeibfaaJ
import Derived.Test.YtaehlbbjbeibfaaX2
section

set_option linter.unusedVariables false
set_option linter.unusedSectionVars false
set_option linter.unusedSimpArgs false
namespace Go.Proofs.Ytaehlbbjbeibfaa
section
variable {β : Type} [Inhabited β]
def hgt (l : List β) (i : Nat) : β := l.getD i default
def swp (l : List β) (i j : Nat) : List β := (l.set i (hgt l j)).set j (hgt l i)
theorem hgt_set (l : List β) (i : Nat) (x : β) (t : Nat) (hi : i < l.length) : hgt (l.set i x) t = if t = i then x else hgt l t := by
 unfold hgt
 rw [List.getD_eq_getElem?_getD, List.getD_eq_getElem?_getD, List.getElem?_set]
 by_cases h : i = t
 ·subst h
  simp [hi]
 ·have h2 : ¬ t = i := fun e => h e.symm
  rw [if_neg h, if_neg h2]
theorem swp_len (l : List β) (i j : Nat) : (swp l i j).length = l.length := by simp [swp]
theorem hgt_swp (l : List β) (i j t : Nat) (hi : i < l.length) (hj : j < l.length) : hgt (swp l i j) t = if t = j then hgt l i else if t = i then hgt l j else hgt l t := by
 unfold swp
 rw [hgt_set _ _ _ _ (by simpa using hj), hgt_set _ _ _ _ hi]
theorem hgt_eq (l : List β) (i : Nat) (hi : i < l.length) : hgt l i = l[i] := by
 unfold hgt
 rw [List.getD_eq_getElem?_getD, List.getElem?_eq_getElem hi]
 rfl
theorem hgt_mem (l : List β) (i : Nat) (hi : i < l.length) : hgt l i ∈ l := by
 rw [hgt_eq l i hi]
 exact List.getElem_mem hi
theorem swp_perm (l : List β) (i j : Nat) (hi : i < l.length) (hj : j < l.length) : (swp l i j).Perm l := by
 unfold swp
 rw [hgt_eq l i hi, hgt_eq l j hj]
 exact List.set_set_perm hi hj
variable (ah : β → β → Bool)
/-- what stands at k goes up -/
def upF (l : List β) (k : Nat) : List β :=
 if h : 0 < k ∧ ah (hgt l k) (hgt l ((k - 1) / 2)) = true then upF (swp l k ((k - 1) / 2)) ((k - 1) / 2) else l
 termination_by k
 decreasing_by omega
def kid1 (l : List β) (k : Nat) : Nat := if 2 * k + 1 < l.length ∧ ah (hgt l (2 * k + 1)) (hgt l k) = true then 2 * k + 1 else k
def kid2 (l : List β) (k : Nat) : Nat := if 2 * k + 2 < l.length ∧ ah (hgt l (2 * k + 2)) (hgt l (kid1 ah l k)) = true then 2 * k + 2 else kid1 ah l k
theorem kid1_cases (l : List β) (k : Nat) : kid1 ah l k = k ∨ (kid1 ah l k = 2 * k + 1 ∧ 2 * k + 1 < l.length) := by
 unfold kid1
 split
 ·rename_i h
  exact .inr ⟨rfl, h.1⟩
 ·exact .inl rfl
theorem kid2_cases (l : List β) (k : Nat) : kid2 ah l k = k ∨ (k < kid2 ah l k ∧ kid2 ah l k < l.length ∧ (kid2 ah l k = 2 * k + 1 ∨ kid2 ah l k = 2 * k + 2)) := by
 unfold kid2
 split
 ·rename_i h
  exact .inr ⟨by omega, h.1, .inr rfl⟩
 ·rcases kid1_cases ah l k with h | h
  ·exact .inl h
  ·exact .inr ⟨by omega, by omega, .inl h.1⟩
/-- what stands at k goes down -/
def downF (l : List β) (k : Nat) : List β :=
 if h : kid2 ah l k = k then l else downF (swp l k (kid2 ah l k)) (kid2 ah l k)
 termination_by l.length - k
 decreasing_by
  rw [swp_len]
  have := kid2_cases ah l k
  omega
def pushF (l : List β) (x : β) : List β := upF ah (l ++ [x]) l.length
def popF (l : List β) : List β := downF ah ((l.set 0 (hgt l (l.length - 1))).take (l.length - 1)) 0
/-- an order: none is ahead of itself, and 'not ahead' goes on -/
structure HOrd : Prop where
 asym : ∀ a b, ah a b = true → ah b a = false
 trans : ∀ a b c, ah a b = false → ah b c = false → ah a c = false
variable {ah}
theorem HOrd.irr (O : HOrd ah) (a : β) : ah a a = false := by
 by_cases h : ah a a = true
 ·exact O.asym a a h
 ·simpa using h
variable (ah)
def Hp (l : List β) : Prop := ∀ i, 0 < i → i < l.length → ah (hgt l i) (hgt l ((i - 1) / 2)) = false
def UpInv (l : List β) (k : Nat) : Prop :=
 (∀ i, 0 < i → i < l.length → i ≠ k → ah (hgt l i) (hgt l ((i - 1) / 2)) = false) ∧
 (∀ i, 0 < i → i < l.length → (i - 1) / 2 = k → 0 < k → ah (hgt l i) (hgt l ((k - 1) / 2)) = false)
def DownInv (l : List β) (k : Nat) : Prop :=
 (∀ i, 0 < i → i < l.length → (i - 1) / 2 ≠ k → ah (hgt l i) (hgt l ((i - 1) / 2)) = false) ∧
 (∀ i, 0 < i → i < l.length → (i - 1) / 2 = k → 0 < k → ah (hgt l i) (hgt l ((k - 1) / 2)) = false)
variable {ah}
theorem upF_spec (O : HOrd ah) : ∀ (k : Nat) (l : List β), k < l.length → UpInv ah l k → Hp ah (upF ah l k) ∧ (upF ah l k).Perm l := by
 intro k
 induction k using Nat.strongRecOn with
 | ind k ih =>
  intro l hk hI
  rw [upF]
  split
  ·rename_i h
   obtain ⟨h0, h1⟩ := h
   obtain ⟨p, hp⟩ : ∃ p, (k - 1) / 2 = p := ⟨_, rfl⟩
   have hpk : p < k := by omega
   rw [hp] at h1 ⊢
   have hpl : p < l.length := by omega
   have h2 := O.asym _ _ h1
   have hI2 : UpInv ah (swp l k p) p := by
    obtain ⟨I1, I2⟩ := hI
    refine ⟨fun i hi hil hip => ?_, fun i hi hil hip hp0 => ?_⟩
    ·rw [swp_len] at hil
     rw [hgt_swp l k p i hk hpl, hgt_swp l k p _ hk hpl, if_neg hip]
     by_cases e1 : i = k
     ·subst e1
      rw [if_pos rfl, hp, if_pos rfl]
      exact h2
     ·rw [if_neg e1]
      by_cases e2 : (i - 1) / 2 = p
      ·rw [if_pos e2]
       have := I1 i hi hil e1
       rw [e2] at this
       exact O.trans _ _ _ this h2
      ·rw [if_neg e2]
       by_cases e3 : (i - 1) / 2 = k
       ·rw [if_pos e3]
        have := I2 i hi hil e3 h0
        rwa [hp] at this
       ·rw [if_neg e3]
        exact I1 i hi hil e1
    ·rw [swp_len] at hil
     have hpp : (p - 1) / 2 ≠ p := by omega
     have hpq : (p - 1) / 2 ≠ k := by omega
     have hip2 : i ≠ p := by omega
     rw [hgt_swp l k p i hk hpl, hgt_swp l k p _ hk hpl, if_neg hip2, if_neg hpp, if_neg hpq]
     have h5 := I1 p hp0 hpl (by omega)
     by_cases e1 : i = k
     ·rw [if_pos e1]
      exact h5
     ·rw [if_neg e1]
      have := I1 i hi hil e1
      rw [hip] at this
      exact O.trans _ _ _ this h5
   have := ih p hpk (swp l k p) (by rw [swp_len]; exact hpl) hI2
   exact ⟨this.1, this.2.trans (swp_perm l k p hk hpl)⟩
  ·rename_i h
   refine ⟨fun i hi hil => ?_, List.Perm.refl _⟩
   by_cases e : i = k
   ·subst e
    have : ¬ ah (hgt l i) (hgt l ((i - 1) / 2)) = true := fun h1 => h ⟨hi, h1⟩
    simpa using this
   ·exact hI.1 i hi hil e
theorem kid2_least (O : HOrd ah) (l : List β) (k : Nat) : ∀ i, 0 < i → i < l.length → (i - 1) / 2 = k → ah (hgt l i) (hgt l (kid2 ah l k)) = false := by
 intro i hi hil hp
 have hk1 : 2 * k + 1 < l.length → ah (hgt l (2 * k + 1)) (hgt l (kid1 ah l k)) = false := by
  intro h
  unfold kid1
  split
  ·exact O.irr _
  ·rename_i h1
   have : ¬ ah (hgt l (2 * k + 1)) (hgt l k) = true := fun h2 => h1 ⟨h, h2⟩
   simpa using this
 rcases (show i = 2 * k + 1 ∨ i = 2 * k + 2 by omega) with rfl | rfl
 ·unfold kid2
  split
  ·rename_i h
   exact O.trans _ _ _ (hk1 hil) (O.asym _ _ h.2)
  ·exact hk1 hil
 ·unfold kid2
  split
  ·exact O.irr _
  ·rename_i h
   have : ¬ ah (hgt l (2 * k + 2)) (hgt l (kid1 ah l k)) = true := fun h2 => h ⟨hil, h2⟩
   simpa using this
theorem kid2_ahead (O : HOrd ah) (l : List β) (k : Nat) : ah (hgt l k) (hgt l (kid2 ah l k)) = false := by
 have h1 : ah (hgt l k) (hgt l (kid1 ah l k)) = false := by
  unfold kid1
  split
  ·rename_i h
   exact O.asym _ _ h.2
  ·exact O.irr _
 unfold kid2
 split
 ·rename_i h
  exact O.trans _ _ _ h1 (O.asym _ _ h.2)
 ·exact h1
theorem downF_spec (O : HOrd ah) : ∀ (n k : Nat) (l : List β), l.length - k ≤ n → DownInv ah l k → Hp ah (downF ah l k) ∧ (downF ah l k).Perm l := by
 intro n
 induction n with
 | zero =>
  intro k l hn hI
  rw [downF]
  split
  ·rename_i h
   refine ⟨fun i hi hil => ?_, List.Perm.refl _⟩
   exact hI.1 i hi hil (by omega)
  ·rename_i h
   have := kid2_cases ah l k
   omega
 | succ n ih =>
  intro k l hn hI
  rw [downF]
  split
  ·rename_i h
   refine ⟨fun i hi hil => ?_, List.Perm.refl _⟩
   by_cases e : (i - 1) / 2 = k
   ·have := kid2_least O l k i hi hil e
    rw [h] at this
    rwa [e]
   ·exact hI.1 i hi hil e
  ·rename_i h
   obtain ⟨m, hm⟩ : ∃ m, kid2 ah l k = m := ⟨_, rfl⟩
   have hc := kid2_cases ah l k
   have hl := kid2_least O l k
   have ha := kid2_ahead O l k
   rw [hm] at h hc hl ha ⊢
   have hkm : k < m := by omega
   have hml : m < l.length := by omega
   have hmk : (m - 1) / 2 = k := by omega
   have hkl : k < l.length := by omega
   obtain ⟨I1, I2⟩ := hI
   have hI2 : DownInv ah (swp l k m) m := by
    refine ⟨fun i hi hil hip => ?_, fun i hi hil hip hp0 => ?_⟩
    ·rw [swp_len] at hil
     rw [hgt_swp l k m i hkl hml, hgt_swp l k m _ hkl hml, if_neg hip]
     by_cases e1 : i = m
     ·subst e1
      rw [if_pos rfl, hmk, if_pos rfl]
      exact ha
     ·rw [if_neg e1]
      by_cases e2 : i = k
      ·subst e2
       have e3 : ¬ (i - 1) / 2 = i := by omega
       rw [if_pos rfl, if_neg e3]
       exact I2 m (by omega) hml hmk hi
      ·rw [if_neg e2]
       by_cases e3 : (i - 1) / 2 = k
       ·rw [if_pos e3]
        exact hl i hi hil e3
       ·rw [if_neg e3]
        exact I1 i hi hil e3
    ·rw [swp_len] at hil
     have e1 : i ≠ m := by omega
     have e2 : i ≠ k := by omega
     rw [hgt_swp l k m i hkl hml, hgt_swp l k m _ hkl hml, hmk, if_neg e1, if_neg e2, if_neg (by omega), if_pos rfl]
     have := I1 i hi hil (by omega)
     rwa [hip] at this
   have := ih m (swp l k m) (by rw [swp_len]; omega) hI2
   exact ⟨this.1, this.2.trans (swp_perm l k m hkl hml)⟩
theorem hgt_append (l : List β) (x : β) (i : Nat) (hi : i < l.length) : hgt (l ++ [x]) i = hgt l i := by
 unfold hgt
 rw [List.getD_eq_getElem?_getD, List.getD_eq_getElem?_getD, List.getElem?_append_left hi]
theorem pushF_spec (O : HOrd ah) (l : List β) (x : β) (h : Hp ah l) : Hp ah (pushF ah l x) ∧ (pushF ah l x).Perm (l ++ [x]) := by
 unfold pushF
 refine upF_spec O _ _ (by simp) ⟨fun i hi hil hne => ?_, fun i hi hil hp h0 => ?_⟩
 ·rw [List.length_append] at hil
  simp only [List.length_cons, List.length_nil] at hil
  rw [hgt_append _ _ _ (by omega), hgt_append _ _ _ (by omega)]
  exact h i hi (by omega)
 ·rw [List.length_append] at hil
  simp only [List.length_cons, List.length_nil] at hil
  omega
theorem hgt_take (l : List β) (n i : Nat) (h : i < n) : hgt (l.take n) i = hgt l i := by
 unfold hgt
 rw [List.getD_eq_getElem?_getD, List.getD_eq_getElem?_getD, List.getElem?_take, if_pos h]
theorem Hp.root (O : HOrd ah) {l : List β} (h : Hp ah l) : ∀ i, i < l.length → ah (hgt l i) (hgt l 0) = false := by
 intro i
 induction i using Nat.strongRecOn with
 | ind i ih =>
  intro hi
  by_cases h0 : i = 0
  ·subst h0
   exact O.irr _
  ·exact O.trans _ _ _ (h i (by omega) hi) (ih ((i - 1) / 2) (by omega) (by omega))
theorem Hp.least (O : HOrd ah) {l : List β} (h : Hp ah l) : ∀ y ∈ l, ah y (hgt l 0) = false := by
 intro y hy
 obtain ⟨i, hi, rfl⟩ := List.getElem_of_mem hy
 rw [← hgt_eq l i hi]
 exact h.root O i hi
theorem pop_perm (l : List β) (h : 0 < l.length) : l.Perm (hgt l 0 :: (l.set 0 (hgt l (l.length - 1))).take (l.length - 1)) := by
 cases l with
 | nil => exact absurd h (by simp)
 | cons x t =>
  rcases List.eq_nil_or_concat t with rfl | ⟨t, y, rfl⟩
  ·simp [hgt]
  ·have e : hgt (x :: t.concat y) ((x :: t.concat y).length - 1) = y := by
    simp [hgt]
   rw [e]
   have : ((x :: t.concat y).set 0 y).take ((x :: t.concat y).length - 1) = y :: t := by
    simp
   rw [this]
   show List.Perm (x :: t.concat y) (x :: y :: t)
   rw [List.concat_eq_append]
   exact List.Perm.cons _ (List.perm_append_comm (l₁ := t) (l₂ := [y]))
theorem popF_spec (O : HOrd ah) (l : List β) (h : Hp ah l) (h0 : 0 < l.length) : Hp ah (popF ah l) ∧ l.Perm (hgt l 0 :: popF ah l) := by
 have hs : DownInv ah ((l.set 0 (hgt l (l.length - 1))).take (l.length - 1)) 0 := by
  refine ⟨fun i hi hil hne => ?_, fun i hi hil hp h0 => absurd h0 (by omega)⟩
  rw [List.length_take, List.length_set] at hil
  rw [hgt_take _ _ _ (by omega), hgt_take _ _ _ (by omega), hgt_set _ _ _ _ h0, hgt_set _ _ _ _ h0, if_neg (by omega), if_neg hne]
  exact h i hi (by omega)
 have := downF_spec O _ 0 _ (Nat.le_refl _) hs
 exact ⟨this.1, (pop_perm l h0).trans (List.Perm.cons _ this.2.symm)⟩
theorem pushF_len (O : HOrd ah) (l : List β) (x : β) (h : Hp ah l) : (pushF ah l x).length = l.length + 1 := by
 have := (pushF_spec O l x h).2.length_eq
 simpa using this
theorem Hp.nil : Hp ah ([] : List β) := fun i _ hi => absurd hi (by simp)
end
end Go.Proofs.Ytaehlbbjbeibfaa
end

section
set_option linter.unusedVariables false
set_option linter.unusedSectionVars false
set_option linter.unusedSimpArgs false
namespace Go.Proofs.Ytaehlbbjbeibfaa
section
variable {β : Type} [Inhabited β] (key at_ : β → Int)
def Rise (Q : List β) : Prop := Q.Pairwise fun a b => at_ a < at_ b
variable {key at_}
theorem Rise.snoc {Q : List β} (h : Rise at_ Q) {x : β} (hx : ∀ y ∈ Q, at_ y < at_ x) : Rise at_ (Q ++ [x]) := by
 refine List.pairwise_append.2 ⟨h, by simp, fun a ha b hb => ?_⟩
 obtain rfl := List.mem_singleton.1 hb
 exact hx a ha
end
section
variable {α β : Type} [Inhabited β] (ah : β → β → Bool) (mk : α → Int → β)
/-- things come one by one, each with its number -/
def pushL : List β → Int → List α → List β
 | L, _, [] => L
 | L, c, x :: xs => pushL (pushF ah L (mk x c)) (c + 1) xs
def stamp : Int → List α → List β
 | _, [] => []
 | c, x :: xs => mk x c :: stamp (c + 1) xs
theorem stamp_len : ∀ (xs : List α) (c : Int), (stamp mk c xs).length = xs.length
 | [], _ => rfl
 | x :: xs, c => by simp [stamp, stamp_len xs]
theorem stamp_get : ∀ (xs : List α) (c : Int) (i : Nat) (h : i < xs.length), (stamp mk c xs)[i]'(by rw [stamp_len]; exact h) = mk xs[i] (c + i)
 | [], _, i, h => absurd h (by simp)
 | x :: xs, c, 0, _ => by simp [stamp]
 | x :: xs, c, i + 1, h => by
  have := stamp_get xs (c + 1) i (by simpa using h)
  simp only [stamp, List.getElem_cons_succ, this]
  congr 1
  omega
variable {ah}
theorem pushL_spec (O : HOrd ah) : ∀ (xs : List α) (L Q : List β) (c : Int), Hp ah L → L.Perm Q → Hp ah (pushL ah mk L c xs) ∧ (pushL ah mk L c xs).Perm (Q ++ stamp mk c xs)
 | [], L, Q, c, h, hP => by simpa [pushL, stamp] using ⟨h, hP⟩
 | x :: xs, L, Q, c, h, hP => by
  have h1 := pushF_spec O L (mk x c) h
  have := pushL_spec O xs _ (Q ++ [mk x c]) (c + 1) h1.1 (h1.2.trans (List.Perm.append_right _ hP))
  rw [List.append_assoc] at this
  exact this
variable (ah)
variable {ah}
end
end Go.Proofs.Ytaehlbbjbeibfaa
end

section
set_option linter.unusedVariables false
set_option linter.unusedSectionVars false
set_option linter.unusedSimpArgs false
namespace Go.Proofs.Ytaehlbbjbeibfaa
section
variable {β : Type} [Inhabited β] {key at_ : β → Int}
/-- a list that has been turned i times -/
def Turned (F G : List Int) (i : Nat) : Prop := F.length = G.length ∧ ∀ t, t < G.length → F.getD t 0 = G.getD ((i + t) % G.length) 0
theorem Turned.zero (G : List Int) : Turned G G 0 := ⟨rfl, fun t ht => by rw [Nat.zero_add, Nat.mod_eq_of_lt ht]⟩
theorem Turned.step {F G : List Int} {x : Int} {i : Nat} (h : Turned (x :: F) G i) : Turned (F ++ [x]) G (i + 1) := by
 obtain ⟨h1, h2⟩ := h
 have hl : F.length + 1 = G.length := by simpa using h1
 refine ⟨by simpa using h1, fun t ht => ?_⟩
 by_cases e : t < F.length
 ·have := h2 (t + 1) (by omega)
  rw [List.getD_eq_getElem?_getD, List.getElem?_append_left e]
  rw [List.getD_cons_succ, List.getD_eq_getElem?_getD] at this
  rw [this]
  congr 1
  congr 1
  omega
 ·have e2 : t = F.length := by omega
  subst e2
  have := h2 0 (by omega)
  rw [List.getD_eq_getElem?_getD, List.getElem?_append_right (Nat.le_refl _), Nat.sub_self]
  rw [List.getD_cons_zero, Nat.add_zero] at this
  show x = _
  rw [this]
  congr 1
  rw [show i + 1 + F.length = i + G.length by omega, Nat.add_mod_right]
theorem Turned.head {F G : List Int} {x : Int} {i : Nat} (h : Turned (x :: F) G i) : 0 < G.length ∧ x = G.getD (i % G.length) 0 := by
 have hl : F.length + 1 = G.length := by simpa using h.1
 have := h.2 0 (by omega)
 rw [List.getD_cons_zero, Nat.add_zero] at this
 exact ⟨by omega, this⟩
end
end Go.Proofs.Ytaehlbbjbeibfaa
end

section
namespace Go.Proofs.Ytaehlbbjbeibfaa.X
open Go.RowKit Go.Proofs.YtaehlbbjbeibfaaW.PrintWords Go.Proofs.YtaehlbbjbeibfaaW.PrintLast Go.Proofs.YtaehlbbjbeibfaaW.PrintMore
attribute [local go_sem] max2_int min2_int max_two min_two max_three min_three max_four min_four
set_option linter.unusedVariables false
set_option linter.unusedSimpArgs false

section
variable {β : Type} {kd : Kd β} {tO tH g base : Nat} {less : Value} {W W1 W2 : World} {row row1 row2 : Option Nat} {L : List β} {came : Int}
/-- the heap at block g: its row of things (block 'row'), what orders them, how many came -/
def HpS (kd : Kd β) (tO tH : Nat) (less : Value) (W : World) (g base : Nat) (row : Option Nat) (L : List β) (came : Int) : Prop :=
 ∃ v, v.ownBlock = row ∧ W.heap[g]? = some (.cells #[v, less, .int .i64 came] tH (0, 0)) ∧ kd.R tO W base (fun k => k ≠ g) v L ∧ base ≤ g
/-- what a call on the heap at block g leaves -/
structure HpTo (W W1 : World) (g base : Nat) (row row1 : Option Nat) : Prop where
 grow : row1 = row ∨ ∃ b, row1 = some b ∧ W.heap.size ≤ b
 below : Below base W W1
 keep : KeepBut W W1 g row
theorem HpTo.refl (W : World) (g base : Nat) (row : Option Nat) : HpTo W W g base row row := ⟨.inl rfl, Below.refl _ _, KeepBut.refl _ _ _⟩
theorem HpTo.trans (h : HpTo W W1 g base row row1) (k : HpTo W1 W2 g base row1 row2) : HpTo W W2 g base row row2 := by
 refine ⟨?_, h.below.trans k.below, h.keep.trans k.keep h.grow⟩
 rcases k.grow with e | ⟨b, e, hb⟩
 ·rw [e]; exact h.grow
 ·exact .inr ⟨b, e, Nat.le_trans h.keep.1 hb⟩
theorem HpTo.then_below (h : HpTo W W1 g base row row1) (hb : Below W1.heap.size W1 W2) (hl : base ≤ W1.heap.size) : HpTo W W2 g base row row1 :=
 ⟨h.grow, h.below.trans (hb.mono hl), h.keep.trans (KeepBut.of_below hb g row1) h.grow⟩
theorem HpTo.then_set (h : HpTo W W1 g base row row1) (hg : base ≤ g) (j : Nat) (u : Value) : HpTo W (W1.setCell ⟨g, j, none⟩ u) g base row row1 :=
 ⟨h.grow, h.below.setCell (p := ⟨g, j, none⟩) hg u, h.keep.set_ j u⟩
theorem HpTo.then_grown (h : HpTo W W1 g base row row1) (hl : base ≤ W1.heap.size) (hr : ∀ k, row1 = some k → base ≤ k) (hg : W1.grownBy W2 row1) (hat : row2 = row1 ∨ ∃ b, row2 = some b ∧ W1.heap.size ≤ b) : HpTo W W2 g base row row2 :=
 h.trans ⟨hat, (Below.refl base W1).grown hg hl hr, KeepBut.of_grown hg g⟩
theorem HpS.lt (h : HpS kd tO tH less W g base row L came) : g < W.heap.size ∧ base ≤ g := by
 obtain ⟨v, _, hb, _, hg⟩ := h
 exact ⟨blk_lt hb, hg⟩
theorem HpS.size (h : HpS kd tO tH less W g base row L came) : base ≤ W.heap.size := by
 have := h.lt
 omega
theorem HpS.row_ (h : HpS kd tO tH less W g base row L came) : ∀ k, row = some k → base ≤ k ∧ k < W.heap.size ∧ k ≠ g := by
 obtain ⟨v, hv, hb, hR, hg⟩ := h
 intro k hk
 rw [← hv] at hk
 exact ⟨Kd.R_base hR k hk, Kd.R_lt hR k hk, hR.1 k hk⟩
theorem HpS.below (h : HpS kd tO tH less W g base row L came) (hb : Below W.heap.size W W1) : HpS kd tO tH less W1 g base row L came := by
 obtain ⟨v, hv, h1, h2, h3⟩ := h
 exact ⟨v, hv, blk_below h1 hb, Kd.R_below h2 hb, h3⟩
theorem HpS.keep (hE : kd.E = []) (h : HpS kd tO tH less W g base row L came) {g2 : Nat} (k : KeepBut W W1 g2 row2) (h1 : g ≠ g2) (h2 : some g ≠ row2) (h3 : ∀ b, row = some b → b ≠ g2 ∧ some b ≠ row2) : HpS kd tO tH less W1 g base row L came := by
 obtain ⟨v, hv, hb, hR, hg⟩ := h
 refine ⟨v, hv, (k.2 g (blk_lt hb) h1 h2).trans hb, ?_, hg⟩
 have hT := Kd.R_tight2 hE hR
 refine Kd.R_mono (Kd.R_step hT fun b hk hlt => ?_) (fun b hk => hk.2)
 have := h3 b (hv ▸ hk.1.symm)
 exact k.2 b hlt this.1 this.2
theorem HpS.grown (hE : kd.E = []) (h : HpS kd tO tH less W g base row L came) (hg : W.grownBy W1 row2) (h2 : some g ≠ row2) (h3 : ∀ b, row = some b → some b ≠ row2) : HpS kd tO tH less W1 g base row L came := by
 obtain ⟨v, hv, hb, hR, hg'⟩ := h
 refine ⟨v, hv, blk_grown hb hg h2, ?_, hg'⟩
 have hT := Kd.R_tight2 hE hR
 refine Kd.R_mono (Kd.R_step hT fun b hk hlt => ?_) (fun b hk => hk.2)
 exact hg.block b hlt (h3 b (hv ▸ hk.1.symm))
end
theorem keepS {wr w9 : World} {g : Nat} {row : Option Nat} {a b c : Value} {t : TypeId} (hb : wr.heap[g]? = some (.cells #[a, b, c] t (0, 0))) (hg2 : wr.drew.grownBy w9 row) (hne : some g ≠ row) : w9.cell? ⟨g, 0, none⟩ = some a ∧ w9.cell? ⟨g, 2, none⟩ = some c ∧ w9.frozen? ⟨g, 0, none⟩ = false := by
 have := blk_grown (blk_drew hb) hg2 hne
 exact ⟨(blk_cell this 0).trans rfl, (blk_cell this 2).trans rfl, blk_frozen this 0⟩
theorem keepA {wr : World} {g : Nat} {a b c : Value} {t : TypeId} (hb : wr.heap[g]? = some (.cells #[a, b, c] t (0, 0))) (o : Obj) : (wr.alloc o).drew.cell? ⟨g, 0, none⟩ = some a ∧ (wr.alloc o).drew.cell? ⟨g, 2, none⟩ = some c ∧ (wr.alloc o).drew.frozen? ⟨g, 0, none⟩ = false := by
 have := blk_drew (blk_alloc hb o)
 exact ⟨(blk_cell this 0).trans rfl, (blk_cell this 2).trans rfl, blk_frozen this 0⟩
theorem C_keepB {α : Type} {d : Kd α} {A : Option Addr} {n : Nat} {xs : List α} {w : World} {g : Nat} {row : Option Nat} (hd : ∀ {W W' : World} {x : α} {cs : List Value}, d.K W x cs → d.K W' x cs) (h : d.C w A n xs) (hf : ∀ ad, A = some ad → 0 < n → ad.block ≠ g ∧ some ad.block ≠ row) : ∀ W', KeepBut w W' g row → d.C W' A n xs := by
 intro W' hk
 refine ⟨h.1, h.2.1, fun hn => ?_⟩
 obtain ⟨ad, he, hc⟩ := h.2.2 hn
 refine ⟨ad, he, fun j p hj => ?_⟩
 obtain ⟨cs, h1, h2, h3⟩ := hc j p hj
 refine ⟨cs, h1, hd h2, fun i u hu => ?_⟩
 have hb := hf ad he hn
 have hx := h3 i u hu
 have hl := World.block_lt_of_cell? _ _ hx
 rw [add_block] at hl
 have hq := hk.2 ad.block hl hb.1 hb.2
 rw [← hx]
 simp only [World.cell?, add_block, hq]
theorem C_ltB {α : Type} {d : Kd α} {A : Option Addr} {n : Nat} {xs : List α} {w : World} (h : d.C w A n xs) (hs : 0 < d.sz) {b : Nat} (hb : w.heap.size ≤ b) {row : Option Nat} (hr : ∀ k, row = some k → w.heap.size ≤ k) : ∀ ad, A = some ad → 0 < n → ad.block ≠ b ∧ some ad.block ≠ row := by
 intro ad he hn
 subst he
 have := Kd.C_lt h hn hs
 exact ⟨by omega, fun e => by have := hr _ e.symm; omega⟩
end Go.Proofs.Ytaehlbbjbeibfaa.X
end

section
namespace Go.Proofs.Ytaehlbbjbeibfaa.X
open Go.RowKit Go.Proofs.YtaehlbbjbeibfaaW.PrintWords Go.Proofs.YtaehlbbjbeibfaaW.PrintLast Go.Proofs.YtaehlbbjbeibfaaW.PrintMore
attribute [local go_sem] max2_int min2_int max_two min_two max_three min_three max_four min_four
set_option linter.unusedVariables false
set_option linter.unusedSimpArgs false

open Go.Proofs.Ytaehlbbjbeibfaa Go.Proofs.Ytaehlbbjbeibfaa.B
/-- a slice's head; what it reads -/
structure Hdr (γ : Type) where
 A : Option Addr
 n : Nat
 c : Nat
 l : List γ
section
variable {γ : Type}
def Hdr.v (x : Hdr γ) : Value := .slice x.A x.n x.c
def zHdr : Hdr γ := ⟨none, 0, 0, []⟩
def kHdr : Kd (Hdr γ) := Kd.scalar Hdr.v (fun _ => rfl)
theorem kHdr_open {w : World} {x : Hdr γ} {cs : List Value} (h : kHdr.K w x cs) : cs = [.slice x.A x.n x.c] := h
theorem kHdr_openM {w : World} {base : Nat} {ok : Nat → Prop} {x : Hdr γ} {cs : List Value} (h : kHdr.M w base ok x cs) : cs = [.slice x.A x.n x.c] := h
theorem kHdr_mk (w : World) (x : Hdr γ) : kHdr.K w x [.slice x.A x.n x.c] := rfl
theorem kHdr_mkM (w : World) (base : Nat) (ok : Nat → Prop) (x : Hdr γ) : kHdr.M w base ok x [.slice x.A x.n x.c] := rfl
theorem at_Hdr {w : World} {A : Option Addr} {n : Nat} {xs : List (Hdr γ)} (h : Kd.C kHdr w A n xs) (i : Int) (h0 : 0 ≤ i) (h1 : i < n) : ∃ ad, A = some ad ∧ w.cell? (ad.add i.toNat) = some (.slice (xs.getD i.toNat zHdr).A (xs.getD i.toNat zHdr).n (xs.getD i.toNat zHdr).c) :=
 ReadsOf.at_ (Kd.reads_of_C (enc := Hdr.v) (d := zHdr) (h1 := fun _ => rfl) h) i h0 h1
end
/-- an entry's cells; what its labels read -/
structure F26 where
 t : Int
 h : Hdr S103
 s : ByteArray
def zF26 : F26 := ⟨0, zHdr, ⟨#[]⟩⟩
def F26.e (x : F26) : Ent := ⟨x.t, x.h.l, x.s⟩
def kF26 : Kd F26 := Kd.iso (Kd.pair (Kd.int .i64) (Kd.pair kHdr Kd.string)) (fun x : F26 => (x.t, x.h, x.s))
theorem kF26_open {w : World} {x : F26} {cs : List Value} (h : kF26.K w x cs) : cs = [.int .i64 x.t, .slice x.h.A x.h.n x.h.c, .string x.s] := by
 obtain ⟨_, _, rfl, rfl, ⟨_, _, rfl, s1, rfl⟩⟩ := h
 obtain rfl := kHdr_open s1
 rfl
theorem kF26_openM {w : World} {base : Nat} {ok : Nat → Prop} {x : F26} {cs : List Value} (h : kF26.M w base ok x cs) : cs = [.int .i64 x.t, .slice x.h.A x.h.n x.h.c, .string x.s] := by
 obtain ⟨_, _, rfl, rfl, ⟨_, _, rfl, s1, rfl⟩⟩ := h
 obtain rfl := kHdr_openM s1
 rfl
theorem kF26_mk (w : World) (x : F26) : kF26.K w x [.int .i64 x.t, .slice x.h.A x.h.n x.h.c, .string x.s] := ⟨[.int .i64 x.t], [.slice x.h.A x.h.n x.h.c, .string x.s], rfl, rfl, ⟨[.slice x.h.A x.h.n x.h.c], [.string x.s], rfl, rfl, rfl⟩⟩
theorem kF26_mkM (w : World) (base : Nat) (ok : Nat → Prop) (x : F26) : kF26.M w base ok x [.int .i64 x.t, .slice x.h.A x.h.n x.h.c, .string x.s] := ⟨[.int .i64 x.t], [.slice x.h.A x.h.n x.h.c, .string x.s], rfl, rfl, ⟨[.slice x.h.A x.h.n x.h.c], [.string x.s], rfl, rfl, rfl⟩⟩
theorem at_F26 {w : World} {A : Option Addr} {n : Nat} {xs : List F26} (h : Kd.C kF26 w A n xs) (i : Int) (h0 : 0 ≤ i) (h1 : i < n) : ∃ ad, A = some ad ∧ w.cell? (ad.add (i.toNat * 3)) = some (.int .i64 (xs.getD i.toNat zF26).t) ∧ w.cell? ⟨(ad.add (i.toNat * 3)).block, (ad.add (i.toNat * 3)).off + 1, none⟩ = some (.slice (xs.getD i.toNat zF26).h.A (xs.getD i.toNat zF26).h.n (xs.getD i.toNat zF26).h.c) ∧ w.cell? ⟨(ad.add (i.toNat * 3)).block, (ad.add (i.toNat * 3)).off + 2, none⟩ = some (.string (xs.getD i.toNat zF26).s) := by
 obtain ⟨ad, c, e, _, hK, hc0⟩ := Kd.C_get h zF26 i h0 h1
 have hc : ∀ j u, c[j]? = some u → w.cell? (ad.add (i.toNat * 3 + j)) = some u := hc0
 obtain rfl := kF26_open hK
 exact ⟨ad, e, hc 0 _ rfl, by rw [← add_field _ _ 1 (by omega)]; exact hc 1 _ rfl, by rw [← add_field _ _ 2 (by omega)]; exact hc 2 _ rfl⟩
section
variable {P : Program} {md : Region.Mode} {ops : Array Oper} {Q : Exit → Act → World → Prop} {S : World → Prop} {ds : List Nat} {T : Bool × List (List Nat × List Nat)}
/-- an operation that is not wanted -/
theorem pS (i : Nat) (N : Tmp) (l' : Array Bool) (hT : rtab md ops = T) {oi : Oper} {fuel : Nat} {l : Array Bool} {a a' : Act} {w : World} (h : wpAnyLast P md ops Q S ds fuel l' a' w)
  (hi : ops[i]? = some oi := by rfl) (hN : oi.dst = some N := by rfl) (hc : anyT T l.toList l'.toList i = true := by kernel_rfl) (hQ : ∀ c a w, Q (.panic c) (a.put oi.dst undef) w → Q (.panic c) a w := by exact fun _ _ _ h => h)
  (hw : Region.wanted oi (yielded ops a.tmps) = false := by rfl)
  (ha : a.put (some N) undef = a' := by simp only [Act.put, List.setIfInBounds_toArray, List.set_cons_zero, List.set_cons_succ, i64_w, i32_w]; rfl) : wpAnyLast P md ops Q S ds (fuel + 1) l a w :=
 pure_ l' hi hN (any_of hT hc) hQ (Or.inr ⟨hw, rfl⟩) ha h
end
theorem two_newA (W : World) (t : TypeId) (a b : Array Value) {g : Nat} {o : Obj} (hg : W.heap[g]? = some o) :
  ((W.alloc (.cells a t)).alloc (.cells b t)).drew.heap[W.heap.size]? = some (.cells a t (0, 0)) ∧
  ((W.alloc (.cells a t)).alloc (.cells b t)).drew.heap[W.heap.size + 1]? = some (.cells b t (0, 0)) ∧
  ((W.alloc (.cells a t)).alloc (.cells b t)).drew.heap[g]? = some o ∧ Below W.heap.size W ((W.alloc (.cells a t)).alloc (.cells b t)).drew := by
 have h1 : ((W.alloc (.cells a t)).alloc (.cells b t)).drew.heap[W.heap.size]? = some (.cells a t (0, 0)) := blk_alloc (blk_new W _) _
 have h2 : ((W.alloc (.cells a t)).alloc (.cells b t)).drew.heap[W.heap.size + 1]? = some (.cells b t (0, 0)) := by
  have := blk_new (W.alloc (.cells a t)) (.cells b t)
  rw [show (W.alloc (.cells a t)).heap.size = W.heap.size + 1 by simp] at this
  exact this
 exact ⟨h1, h2, blk_alloc (blk_alloc hg _) _, below_drew (below_alloc (below_alloc (Below.refl _ _) _) _)⟩
/-! ### what they read, now and later -/
def RdE (W : World) (x : F26) : Prop := x.h.n = x.h.l.length ∧ x.h.n ≤ x.h.c ∧ Kd.C k103 W x.h.A x.h.l.length x.h.l ∧ x.h.l.length ≤ 4398046511104
def RdL (W : World) (x : Hdr S26) : Prop := x.n = x.l.length ∧ x.n ≤ x.c ∧ Kd.C k26 W x.A x.l.length x.l ∧ 0 < x.l.length ∧ ∀ e ∈ x.l, okE e
theorem RdE.later {W W1 : World} {x : F26} (h : RdE W x) (hb : Below W.heap.size W W1) : RdE W1 x := ⟨h.1, h.2.1, Kd.C_below h.2.2.1 hb, h.2.2.2⟩
theorem RdL.later {W W1 : World} {x : Hdr S26} (h : RdL W x) (hb : Below W.heap.size W W1) : RdL W1 x := ⟨h.1, h.2.1, Kd.C_below h.2.2.1 hb, h.2.2.2⟩
theorem blkB {W W1 : World} {base g : Nat} {o : Obj} (h : W.heap[g]? = some o) (hg : g < base) (hb : Below base W W1) : W1.heap[g]? = some o := (hb.block g hg).trans h
/-- the order's one variable: which way -/
def BoxE (asc : Bool) (W : World) (base gc : Nat) : Prop := gc < base ∧ W.heap[gc]? = some (.cells #[.bool asc] 4 (0, 0))
/-- the order of lists: its one variable holds the order of entries -/
def BoxL (asc : Bool) (W : World) (base gc : Nat) : Prop := gc < base ∧ ∃ gb, W.heap[gc]? = some (.cells #[.func (.func 39) #[] #[.pointer (some ⟨gb, 0, none⟩)]] 60 (0, 0)) ∧ BoxE asc W base gb
theorem BoxE.step {asc : Bool} {W W1 : World} {base gc : Nat} (h : BoxE asc W base gc) (hb : Below base W W1) : BoxE asc W1 base gc := ⟨h.1, blkB h.2 h.1 hb⟩
theorem BoxL.step {asc : Bool} {W W1 : World} {base gc : Nat} (h : BoxL asc W base gc) (hb : Below base W W1) : BoxL asc W1 base gc := by
 obtain ⟨h1, gb, h2, h3⟩ := h
 exact ⟨h1, gb, blkB h2 h1 hb, h3.step hb⟩
structure EnvE (asc : Bool) (W0 W : World) (base gc : Nat) : Prop where
 box : BoxE asc W base gc
 bel : Below W0.heap.size W0 W
 le : W0.heap.size ≤ base
structure EnvL (asc : Bool) (W0 W : World) (base gc : Nat) : Prop where
 box : BoxL asc W base gc
 bel : Below W0.heap.size W0 W
 le : W0.heap.size ≤ base
theorem EnvE.step {asc : Bool} {W0 W W1 : World} {base gc : Nat} (h : EnvE asc W0 W base gc) (hb : Below base W W1) : EnvE asc W0 W1 base gc := ⟨h.box.step hb, h.bel.trans (hb.mono h.le), h.le⟩
theorem EnvL.step {asc : Bool} {W0 W W1 : World} {base gc : Nat} (h : EnvL asc W0 W base gc) (hb : Below base W W1) : EnvL asc W0 W1 base gc := ⟨h.box.step hb, h.bel.trans (hb.mono h.le), h.le⟩
/-! ### who is ahead -/
def lessE (asc : Bool) (x y : F26) : Bool := ahE asc x.e y.e
def lessL (asc : Bool) (x y : Hdr S26) : Bool := ahE asc (x.l.getD 0 z26) (y.l.getD 0 z26)
theorem ahE_asym (asc : Bool) (x y : Ent) (h : ahE asc x y = true) : ahE asc y x = false := by
 unfold ahE at *
 have h1 := ordE_stands.flip x y
 cases asc <;> simp only [Bool.false_eq_true, if_false, if_true, decide_eq_true_eq, decide_eq_false_iff_not] at * <;> omega
theorem ahE_neg (asc : Bool) (x y z : Ent) (h1 : ahE asc x y = false) (h2 : ahE asc y z = false) : ahE asc x z = false := by
 unfold ahE at *
 have e1 := ordE_stands.flip x y
 have e2 := ordE_stands.flip y z
 have e3 := ordE_stands.flip x z
 have f1 := fun a b => ordE_stands.le (a := z) (b := y) (d := x) a b
 have f2 := fun a b => ordE_stands.le (a := x) (b := y) (d := z) a b
 cases asc <;> simp only [Bool.false_eq_true, if_false, if_true, decide_eq_false_iff_not] at *
 ·have := f2 (by omega) (by omega)
  omega
 ·have := f1 (by omega) (by omega)
  omega
theorem lessE_asym (asc : Bool) (x y : F26) (h : lessE asc x y = true) : lessE asc y x = false := ahE_asym asc _ _ h
theorem lessE_neg (asc : Bool) (x y z : F26) (h1 : lessE asc x y = false) (h2 : lessE asc y z = false) : lessE asc x z = false := ahE_neg asc _ _ _ h1 h2
theorem lessL_asym (asc : Bool) (x y : Hdr S26) (h : lessL asc x y = true) : lessL asc y x = false := ahE_asym asc _ _ h
theorem lessL_neg (asc : Bool) (x y z : Hdr S26) (h1 : lessL asc x y = false) (h2 : lessL asc y z = false) : lessL asc x z = false := ahE_neg asc _ _ _ h1 h2
/-- a heap's order: by what is less, then by number -/
theorem ord_of {α β : Type} (less : α → α → Bool) (p : β → α) (q : β → Int) (asym : ∀ x y, less x y = true → less y x = false) (neg : ∀ x y z, less x y = false → less y z = false → less x z = false) :
  HOrd (fun a b : β => less (p a) (p b) || (!less (p b) (p a) && decide (q a < q b))) := by
 refine ⟨fun a b h => ?_, fun a b c h1 h2 => ?_⟩
 ·rw [Bool.or_eq_true, Bool.and_eq_true, Bool.not_eq_true', decide_eq_true_iff] at h
  rw [Bool.or_eq_false_iff, Bool.and_eq_false_iff, Bool.not_eq_false', decide_eq_false_iff_not]
  rcases h with h | ⟨h1, h2⟩
  ·exact ⟨asym _ _ h, .inl h⟩
  ·exact ⟨h1, .inr (by omega)⟩
 ·rw [Bool.or_eq_false_iff, Bool.and_eq_false_iff, Bool.not_eq_false', decide_eq_false_iff_not] at *
  obtain ⟨g1, g2⟩ := h1
  obtain ⟨g3, g4⟩ := h2
  refine ⟨neg _ _ _ g1 g3, ?_⟩
  cases hca : less (p c) (p a) with
  | true => exact .inl rfl
  | false =>
   have k1 : less (p b) (p a) = false := by
    cases hba : less (p b) (p a) with
    | false => rfl
    | true =>
     rw [neg _ _ _ g3 hca] at hba
     cases hba
   have k2 : less (p c) (p b) = false := neg _ _ _ hca g1
   rw [k1] at g2
   rw [k2] at g4
   rcases g2 with g2 | g2
   ·cases g2
   ·rcases g4 with g4 | g4
    ·cases g4
    ·exact .inr (by omega)
theorem ev_at {α : Type} {f : Nat → Option α} {v : α} (h : Ev f v) : ∃ k, f k = some v := by
 obtain ⟨k, hk⟩ := h
 exact ⟨k, hk k (Nat.le_refl _)⟩
theorem aheadE_calls (asc : Bool) (x y : Ent) (A1 : Option Addr) (c1 : Nat) (A2 : Option Addr) (c2 : Nat) (w : World) (h1 : Kd.C k103 w A1 x.f1.length x.f1) (l1 : x.f1.length ≤ c1) (o1 : okE x) (h2 : Kd.C k103 w A2 y.f1.length y.f1) (l2 : y.f1.length ≤ c2) (o2 : okE y) :
  Calls Try.prog 23 #[.agg #[.int .i64 x.f0, .slice A1 x.f1.length c1, .string x.f2], .agg #[.int .i64 y.f0, .slice A2 y.f1.length c2, .string y.f2], .bool asc] w fun e w' => e = .returned (.bool (ahE asc x y)) ∧ Below w.heap.size w w' := by
 obtain ⟨k, hk⟩ := ev_at (aheadE_ev x y asc o1 o2)
 exact entry_Ahead.calls k _ _ _ _ _ _ _ _ _ _ _ _ w h1 l1 h2 l2 hk
theorem aheadF_calls (asc : Bool) (x y : F26) (w : World) (hx : RdE w x) (hy : RdE w y) :
  Calls Try.prog 23 #[.agg #[.int .i64 x.t, .slice x.h.A x.h.n x.h.c, .string x.s], .agg #[.int .i64 y.t, .slice y.h.A y.h.n y.h.c, .string y.s], .bool asc] w fun e w' => e = .returned (.bool (lessE asc x y)) ∧ Below w.heap.size w w' := by
 rw [hx.1, hy.1]
 exact aheadE_calls asc x.e y.e _ _ _ _ w hx.2.2.1 (hx.1 ▸ hx.2.1) hx.2.2.2 hy.2.2.1 (hy.1 ▸ hy.2.1) hy.2.2.2
set_option maxHeartbeats 1000000 in
set_option maxRecDepth 1000000 in
/-- the order of entries -/
theorem lessE_calls {asc : Bool} {W0 : World} {base gc : Nat} (x y : F26) (hx : RdE W0 x) (hy : RdE W0 y) (w : World) (hE : EnvE asc W0 w base gc) :
  Calls Try.prog 39 #[.agg #[.int .i64 x.t, .slice x.h.A x.h.n x.h.c, .string x.s], .agg #[.int .i64 y.t, .slice y.h.A y.h.n y.h.c, .string y.s], .pointer (some ⟨gc, 0, none⟩)] w fun e w' => e = .returned (.bool (lessE asc x y)) ∧ Below w.heap.size w w' := by
 have HB := Aside0.mk (below_alloc (below_alloc (Below.refl w.heap.size w) (.cells #[.int .i64 x.t, .slice x.h.A x.h.n x.h.c, .string x.s] 26)) (.cells #[.int .i64 y.t, .slice y.h.A y.h.n y.h.c, .string y.s] 26)); have HA := Aside0.mk (aheadF_calls asc x y _ ((hx.later hE.bel).later HB.out) ((hy.later hE.bel).later HB.out)); have hg : w.cell? ⟨gc, 0, none⟩ = some (.bool asc) := (blk_cell hE.box.2 0).trans rfl; have hgl : gc < w.heap.size := blk_lt hE.box.2; obtain ⟨b, hb⟩ : ∃ b, lessE asc x y = b := ⟨_, rfl⟩; rw [hb] at HA ⊢; clear hx hy hE hb; go_enter Try.func39, Try.ntmps39
 go_wp2_with (go_at_call 23; (with_reducible refine HA.out.mono ?_); rintro e w1 ⟨rfl, hb⟩; have HB1 := Aside0.mk (below_step HB.out hb); clear hb)
 go_ret
 exact ⟨rfl, HB1.out⟩
end Go.Proofs.Ytaehlbbjbeibfaa.X
end

section
namespace Go.Proofs.Ytaehlbbjbeibfaa.X
open Go.RowKit Go.Proofs.YtaehlbbjbeibfaaW.PrintWords Go.Proofs.YtaehlbbjbeibfaaW.PrintLast Go.Proofs.YtaehlbbjbeibfaaW.PrintMore
attribute [local go_sem] max2_int min2_int max_two min_two max_three min_three max_four min_four
set_option linter.unusedVariables false
set_option linter.unusedSimpArgs false

open Go.Proofs.Ytaehlbbjbeibfaa Go.Proofs.Ytaehlbbjbeibfaa.B
def lessL.T1 : Bool × List (List Nat × List Nat) := (true, [([], []), ([], []), ([1], [1]), ([2], [2]), ([], []), ([4], [4]), ([5], [5]), ([0, 3, 6], [0, 3, 6]), ([7, 7, 0, 1, 2, 3, 4, 5, 6, 7], [7])])
def lessL.B1 : List Nat := [0, 0, 2, 6, 0, 16, 48, 127, 255]
theorem lessL.tab1 : rtab .any (opsOf Try.f27 1) = lessL.T1 := by kernel_rfl
theorem lessL.bits1 : waitsOk lessL.T1.2 lessL.B1 = true := by kernel_rfl
theorem keepL {W W1 : World} {a b : Addr} {g : Nat} {v v0 v1 v2 u0 u1 u2 : Value} (h : W.cell? ⟨g, 0, none⟩ = some v ∧ W.cell? a = some v0 ∧ W.cell? ⟨a.block, a.off + 1, none⟩ = some v1 ∧ W.cell? ⟨a.block, a.off + 2, none⟩ = some v2 ∧ W.cell? b = some u0 ∧ W.cell? ⟨b.block, b.off + 1, none⟩ = some u1 ∧ W.cell? ⟨b.block, b.off + 2, none⟩ = some u2) (hb : Below W.heap.size W W1) :
  W1.cell? ⟨g, 0, none⟩ = some v ∧ W1.cell? a = some v0 ∧ W1.cell? ⟨a.block, a.off + 1, none⟩ = some v1 ∧ W1.cell? ⟨a.block, a.off + 2, none⟩ = some v2 ∧ W1.cell? b = some u0 ∧ W1.cell? ⟨b.block, b.off + 1, none⟩ = some u1 ∧ W1.cell? ⟨b.block, b.off + 2, none⟩ = some u2 := by
 have f : ∀ {p : Addr} {x : Value}, W.cell? p = some x → W1.cell? p = some x := fun hx => (hb.cell (World.block_lt_of_cell? W _ hx)).trans hx
 exact ⟨f h.1, f h.2.1, f h.2.2.1, f h.2.2.2.1, f h.2.2.2.2.1, f h.2.2.2.2.2.1, f h.2.2.2.2.2.2⟩
set_option maxHeartbeats 1000000 in
set_option maxRecDepth 1000000 in
theorem lessL_calls {asc : Bool} {W0 : World} {base gc : Nat} (x y : Hdr S26) (hx : RdL W0 x) (hy : RdL W0 y) (w : World) (hE : EnvL asc W0 w base gc) :
  Calls Try.prog 27 #[.slice x.A x.n x.c, .slice y.A y.n y.c, .pointer (some ⟨gc, 0, none⟩)] w fun e w' => e = .returned (.bool (lessL asc x y)) ∧ Below w.heap.size w w' := by
 obtain ⟨n1, k1, C1, p1, o1⟩ := hx.later hE.bel; obtain ⟨n2, k2, C2, p2, o2⟩ := hy.later hE.bel; obtain ⟨_, gb, hgc, hgb⟩ := hE.box; obtain ⟨xA, xn, xc, xl⟩ := x; obtain ⟨yA, yn, yc, yl⟩ := y; dsimp only at n1 k1 C1 p1 o1 n2 k2 C2 p2 o2 ⊢; subst n1 n2; obtain ⟨ad, A1, d1, e1, x0, x1, x2, l1, g1⟩ := at_T26 C1 0 (by decide) (by omega); obtain ⟨ad2, A2, d2, e2, y0, y1, y2, l2, g2⟩ := at_T26 C2 0 (by decide) (by omega); subst e1 e2; have e1 : rd_T26 xl 0 = xl.getD 0 z26 := rfl; have e2 : rd_T26 yl 0 = yl.getD 0 z26 := rfl; have m1 : okE (xl.getD 0 z26) := by rw [List.getD_eq_getElem?_getD, List.getElem?_eq_getElem p1]; exact o1 _ (List.getElem_mem p1)
 have m2 : okE (yl.getD 0 z26) := by rw [List.getD_eq_getElem?_getD, List.getElem?_eq_getElem p2]; exact o2 _ (List.getElem_mem p2)
 rw [e1] at x0 x1 x2 l1 g1; rw [e2] at y0 y1 y2 l2 g2; have hb : lessL asc ⟨some ad, xl.length, xc, xl⟩ ⟨some ad2, yl.length, yc, yl⟩ = ahE asc (xl.getD 0 z26) (yl.getD 0 z26) := rfl; rw [hb]; generalize xl.getD 0 z26 = ex at x0 x1 x2 l1 g1 m1 ⊢; generalize yl.getD 0 z26 = ey at y0 y1 y2 l2 g2 m2 ⊢; have HL := Aside0.mk (fun (w1 : World) (h1 : Below w.heap.size w w1) => lessE_calls (asc := asc) (W0 := w) (base := w.heap.size) (gc := gb) ⟨ex.f0, ⟨A1, ex.f1.length, d1, ex.f1⟩, ex.f2⟩ ⟨ey.f0, ⟨A2, ey.f1.length, d2, ey.f1⟩, ey.f2⟩ ⟨rfl, l1, g1, m1⟩ ⟨rfl, l2, g2, m2⟩ w1 ⟨BoxE.step ⟨blk_lt hgb.2, hgb.2⟩ h1, h1, Nat.le_refl _⟩); have he : lessE asc ⟨ex.f0, ⟨A1, ex.f1.length, d1, ex.f1⟩, ex.f2⟩ ⟨ey.f0, ⟨A2, ey.f1.length, d2, ey.f1⟩, ey.f2⟩ = ahE asc ex ey := rfl; rw [he] at HL; obtain ⟨b, hb⟩ : ∃ b, ahE asc ex ey = b := ⟨_, rfl⟩; rw [hb] at HL ⊢; have f0 : w.cell? ⟨gc, 0, none⟩ = some (.func (.func 39) #[] #[.pointer (some ⟨gb, 0, none⟩)]) := (blk_cell hgc 0).trans rfl; have q1 : (0 : Int) < (xl.length : Int) := by omega
 have q2 : (0 : Int) < (yl.length : Int) := by omega
 have hen := fun (vs : Array Value) (w : World) => enters_ Try.func39 (by kernel_rfl) rfl vs w
 rw [show (0 : Int).toNat * 3 = 0 from rfl, Addr.add_zero'] at x0 x1 x2 y0 y1 y2; clear hx hy hE hgc hgb C1 C2 o1 o2 l1 l2 g1 g2 m1 m2 e1 e2 k1 k2 he hb; go_enter Try.func27, Try.ntmps27
 go_upto_region 1 with (fail)
 refine start_ (n := 9) (S := fun w' => w'.cell? ⟨gc, 0, none⟩ = some (.func (.func 39) #[] #[.pointer (some ⟨gb, 0, none⟩)]) ∧ w'.cell? ad = some (.int .i64 ex.f0) ∧ w'.cell? ⟨ad.block, ad.off + 1, none⟩ = some (.slice A1 ex.f1.length d1) ∧ w'.cell? ⟨ad.block, ad.off + 2, none⟩ = some (.string ex.f2) ∧ w'.cell? ad2 = some (.int .i64 ey.f0) ∧ w'.cell? ⟨ad2.block, ad2.off + 1, none⟩ = some (.slice A2 ey.f1.length d2) ∧ w'.cell? ⟨ad2.block, ad2.off + 2, none⟩ = some (.string ey.f2)) (ds := []) #[N_,N_,N_,N_,N_,N_,N_,N_,N_] (by kernel_rfl) rfl rfl (keepL ⟨f0, x0, x1, x2, y0, y1, y2⟩ (below_drew (Below.refl _ _))) (fun hHeld => ?_); refine with_tabW lessL.tab1 lessL.bits1 (fun HT_ HW_ => ?_); clear f0 x0 x1 x2 y0 y1 y2; refine qY 1 7 HT_.out ?_; refine qY 2 8 HT_.out ?_; refine qY 4 10 HT_.out ?_; refine qY 5 11 HT_.out ?_; refine tY 0 6 HT_.out HW_.out hHeld ?_; refine tY 3 9 HT_.out HW_.out hHeld ?_; refine tY 6 12 HT_.out HW_.out hHeld ?_; refine one_ (i := 7) (N := some 13) #[J_,J_,J_,J_,J_,J_,J_,J_,N_] rfl rfl (one_of HT_.out (by kernel_rfl)) (by decide) (fun K hK => ?_); refine call_ 39 #[.agg #[.int .i64 ex.f0, .slice A1 ex.f1.length d1, .string ex.f2], .agg #[.int .i64 ey.f0, .slice A2 ey.f1.length d2, .string ey.f2], .pointer (some ⟨gb, 0, none⟩)] (by rfl) rfl (by unfold execOp; simp [resolve, Deferred.ofValue, invoke, Act.eval, hen]) ?_; refine (HL.out _ (below_drew (Below.refl _ _))).mono ?_; rintro e w8 ⟨rfl, hb_⟩; have hbb8 := below_step (below_drew (Below.refl _ _)) hb_; refine ⟨_, rfl, ?_⟩; refine hK.out _ _ (keepL hHeld hb_) (fun hHeld => ?_); clear hK K hb_; refine norm_ (a' := ?_) ?_ ?_; rotate_left
 ·show Act.put _ (some 13) _ = _; simp only [Act.put, List.setIfInBounds_toArray, List.set_cons_zero, List.set_cons_succ, i64_w, i32_w]; rfl
 refine qY 8 5 HT_.out ?_; refine done_ (done_of HT_.out (by kernel_rfl)) ?_; go_wp2
 go_ret
 exact ⟨rfl, hbb8⟩
end Go.Proofs.Ytaehlbbjbeibfaa.X
end

section
namespace Go.Proofs.Ytaehlbbjbeibfaa.X
open Go.RowKit Go.Proofs.YtaehlbbjbeibfaaW.PrintWords Go.Proofs.YtaehlbbjbeibfaaW.PrintLast Go.Proofs.YtaehlbbjbeibfaaW.PrintMore
attribute [local go_sem] max2_int min2_int max_two min_two max_three min_three max_four min_four
set_option linter.unusedVariables false
set_option linter.unusedSimpArgs false

open Go.Proofs.Ytaehlbbjbeibfaa Go.Proofs.Ytaehlbbjbeibfaa.B
structure S91 where
 f0 : (Hdr S26)
 f1 : Int
def z91 : S91 := ⟨zHdr, 0⟩
def k91 : Kd S91 := Kd.iso (Kd.pair kHdr (Kd.int .i64)) (fun x : S91 => (x.f0, x.f1))
theorem k91_open {w : World} {x : S91} {cs : List Value} (h : k91.K w x cs) : cs = [.slice x.f0.A x.f0.n x.f0.c, .int .i64 x.f1] := by
 obtain ⟨_, _, rfl, h0, rfl⟩ := h
 obtain rfl := kHdr_open h0
 rfl
theorem k91_openM {w : World} {base : Nat} {ok : Nat → Prop} {x : S91} {cs : List Value} (h : k91.M w base ok x cs) : cs = [.slice x.f0.A x.f0.n x.f0.c, .int .i64 x.f1] := by
 obtain ⟨_, _, rfl, h0, rfl⟩ := h
 obtain rfl := kHdr_openM h0
 rfl
theorem k91_mkM (w : World) (base : Nat) (ok : Nat → Prop) (x : S91) : k91.M w base ok x [.slice x.f0.A x.f0.n x.f0.c, .int .i64 x.f1] := ⟨[.slice x.f0.A x.f0.n x.f0.c], [.int .i64 x.f1], rfl, kHdr_mkM w base ok x.f0, rfl⟩
def rd_T91 (xs : List S91) (i : Int) : S91 := xs.getD i.toNat z91
theorem at_T91 {w : World} {A : Option Addr} {n : Nat} {xs : List S91} (h : Kd.C k91 w A n xs) (i : Int) (h0 : 0 ≤ i) (h1 : i < n) : ∃ ad, A = some ad ∧ w.cell? (ad.add (i.toNat * 2)) = some (.slice (rd_T91 xs i).f0.A (rd_T91 xs i).f0.n (rd_T91 xs i).f0.c) ∧ w.cell? ⟨(ad.add (i.toNat * 2)).block, (ad.add (i.toNat * 2)).off + 1, none⟩ = some (.int .i64 (rd_T91 xs i).f1) := by
 obtain ⟨ad, c, e, _, hK, hc0⟩ := Kd.C_get h z91 i h0 h1
 have hc : ∀ j u, c[j]? = some u → w.cell? (ad.add (i.toNat * 2 + j)) = some u := hc0
 obtain rfl := k91_open hK
 exact ⟨ad, e, hc 0 _ rfl, by rw [← add_field _ _ 1 (by omega)]; exact hc 1 _ rfl⟩
theorem info91 : (Try.prog.info? 91).map (fun i => (i.zero, i.size, i.bytes)) = some (some (.agg #[.slice none 0 0, .int .i64 0]), 2, 32) := by kernel_rfl
instance inh91 : Inhabited S91 := ⟨z91⟩
theorem rd91 (L : List S91) (i : Int) : rd_T91 L i = hgt L i.toNat := rfl
abbrev HSG91 (gc : Nat) : World → Nat → Nat → Option Nat → List S91 → Int → Prop := HpS k91 91 88 (.func (.func 27) #[] #[.pointer (some ⟨gc, 0, none⟩)])
abbrev Env91 := EnvL
abbrev Box91 := BoxL
abbrev Rd91 := RdL
def AllRd91 (W0 : World) (L : List S91) : Prop := ∀ y ∈ L, RdL W0 y.f0
section
variable {W0 : World} {L M : List S91}
theorem AllRd91.at (h : AllRd91 W0 L) (i : Nat) (hi : i < L.length) : RdL W0 (hgt L i).f0 := h _ (hgt_mem L i hi)
theorem AllRd91.rd (h : AllRd91 W0 L) (i : Int) (h0 : 0 ≤ i) (h1 : i < (L.length : Int)) : RdL W0 (rd_T91 L i).f0 := h.at i.toNat (by omega)
theorem AllRd91.perm (h : AllRd91 W0 L) (hp : M.Perm L) : AllRd91 W0 M := fun y hy => h y (hp.mem_iff.1 hy)
theorem AllRd91.snoc {x : (Hdr S26)} {c : Int} (h : AllRd91 W0 L) (hx : RdL W0 x) : AllRd91 W0 (L ++ [⟨x, c⟩]) := fun y hy => by
 rcases List.mem_append.1 hy with hy | hy
 ·exact h y hy
 ·obtain rfl := List.mem_singleton.1 hy
  exact hx
theorem AllRd91.cut (h : AllRd91 W0 L) {e : Nat} {y : S91} (he : e < L.length) (hy : hgt L e = y) : AllRd91 W0 ((L.set 0 y).take e) := fun z hz => by
 have h1 := List.mem_of_mem_take hz
 rcases List.mem_or_eq_of_mem_set h1 with h1 | h1
 ·exact h z h1
 ·rw [h1, ← hy]
  exact h.at e he
end
/-- who goes ahead in the heap -/
def ahG91 (asc : Bool) (a b : S91) : Bool := lessL asc a.f0 b.f0 || (!lessL asc b.f0 a.f0 && decide (a.f1 < b.f1))
theorem hordG91 (asc : Bool) : HOrd (ahG91 asc) := ord_of (lessL asc) (fun y : S91 => y.f0) (fun y => y.f1) (lessL_asym asc) (lessL_neg asc)
end Go.Proofs.Ytaehlbbjbeibfaa.X
end

section
namespace Go.Proofs.Ytaehlbbjbeibfaa.X
open Go.RowKit Go.Proofs.YtaehlbbjbeibfaaW.PrintWords Go.Proofs.YtaehlbbjbeibfaaW.PrintLast Go.Proofs.YtaehlbbjbeibfaaW.PrintMore
attribute [local go_sem] max2_int min2_int max_two min_two max_three min_three max_four min_four
set_option linter.unusedVariables false
set_option linter.unusedSimpArgs false

open Go.Proofs.Ytaehlbbjbeibfaa
variable {asc : Bool} {W0 : World} {gc : Nat}
def S91.cs (x : S91) : Array Value := #[.slice x.f0.A x.f0.n x.f0.c, .int .i64 x.f1]
def ahead91.T2 : Bool × List (List Nat × List Nat) := (true, [([], []), ([0], [0]), ([1], [1]), ([2], [2]), ([], []), ([4], [4]), ([], []), ([6], [6]), ([3, 5, 7], [3, 5, 7]), ([8, 8], [8]), ([9], [9]), ([10, 9], [9, 10]), ([11, 9], [9, 11]), ([12, 9], [9, 12]), ([9], [9]), ([14, 9], [9, 14]), ([9], [9]), ([16, 9], [9, 16]), ([13, 15, 17, 9, 9], [9, 13, 15, 17]), ([18, 9], [9, 18]), ([19, 18, 9], [9, 19]), ([20], [20]), ([21, 20], [20, 21]), ([20], [20]), ([23, 20], [20, 23]), ([22, 24, 20], [20, 22, 24]), ([20, 25, 9], [9, 20, 25]), ([9, 26], [9, 26]), ([27, 20, 0, 1, 2, 3, 4, 5, 6, 7, 8, 9, 10, 11, 12, 13, 14, 15, 16, 17, 18, 19, 20, 21, 22, 23, 24, 25, 26, 27], [27])])
def ahead91.B2 : List Nat := [0, 1, 3, 7, 0, 16, 0, 64, 255, 511, 1023, 2047, 4095, 8191, 1023, 17407, 1023, 66559, 262143, 524287, 1048575, 2097151, 4194303, 2097151, 10485759, 33554431, 67108863, 134217727, 268435455]
theorem ahead91.tab2 : rtab .any (opsOf Try.f53 2) = ahead91.T2 := by kernel_rfl
theorem ahead91.bits2 : waitsOk ahead91.T2.2 ahead91.B2 = true := by kernel_rfl
theorem keepT91 {W W1 : World} {p q g : Nat} {x y : S91} {f0 f2 : Value} {t : TypeId} (h : W.heap[p]? = some (.cells x.cs 91 (0, 0)) ∧ W.heap[q]? = some (.cells y.cs 91 (0, 0)) ∧ W.heap[g]? = some (.cells #[f0, .func (.func 27) #[] #[.pointer (some ⟨gc, 0, none⟩)], f2] t (0, 0))) (hb : Below W.heap.size W W1) :
  W1.cell? ⟨p, 0, none⟩ = some (.slice x.f0.A x.f0.n x.f0.c) ∧ W1.cell? ⟨p, 1, none⟩ = some (.int .i64 x.f1) ∧ W1.cell? ⟨q, 0, none⟩ = some (.slice y.f0.A y.f0.n y.f0.c) ∧ W1.cell? ⟨q, 1, none⟩ = some (.int .i64 y.f1) ∧ W1.cell? ⟨g, 1, none⟩ = some (.func (.func 27) #[] #[.pointer (some ⟨gc, 0, none⟩)]) := by
 have h1 := blk_below h.1 hb
 have h2 := blk_below h.2.1 hb
 have h3 := blk_below h.2.2 hb
 exact ⟨(blk_cell h1 0).trans rfl, (blk_cell h1 1).trans rfl, (blk_cell h2 0).trans rfl, (blk_cell h2 1).trans rfl, (blk_cell h3 1).trans rfl⟩
set_option maxHeartbeats 4000000 in
set_option maxRecDepth 1000000 in
theorem ahead91_calls (W : World) (g base : Nat) (row : Option Nat) (L : List S91) (came i j : Int) (hS : HSG91 gc W g base row L came) (hE : Env91 asc W0 W base gc) (hAR : AllRd91 W0 L) (hi0 : 0 ≤ i) (hi1 : i < (L.length : Int)) (hj0 : 0 ≤ j) (hj1 : j < (L.length : Int)) :
  Calls Try.prog 53 #[.pointer (some ⟨g, 0, none⟩), .int .i64 i, .int .i64 j] W fun e w' => e = .returned (.bool (ahG91 asc (rd_T91 L i) (rd_T91 L j))) ∧ Below W.heap.size W w' := by
 have HB := Aside0.mk (Below.refl W.heap.size W); have HE0 := Aside0.mk (And.intro hE hS.size); have HRX := Aside0.mk (hAR.rd i hi0 hi1); have HRY := Aside0.mk (hAR.rd j hj0 hj1); obtain ⟨v, hv, hb, hR, hg⟩ := hS; obtain ⟨A, c, rfl⟩ := Kd.R_slice hR; have hC := (Kd.R_reads' hR).2.2; obtain ⟨ad, e1, x0, x1⟩ := at_T91 hC i hi0 hi1; obtain ⟨ad2, e2, y0, y1⟩ := at_T91 hC j hj0 hj1; subst e1; obtain rfl : ad = ad2 := by injection e2
 have c0 : W.cell? ⟨g, 0, none⟩ = some (.slice (some ad) L.length c) := (blk_cell hb 0).trans rfl; have p1 := eq_true hi0; have p2 := eq_true hi1; have p3 := eq_true hj0; have p4 := eq_true hj1; have HG := Aside0.mk hb; clear hC e2 hv hb hR hg hE hAR; generalize rd_T91 L i = x at x0 x1 HRX ⊢; generalize rd_T91 L j = y at y0 y1 HRY ⊢; go_enter Try.func53, Try.ntmps53
 go_upto_region 1 with (fail)
 go_cut [7, 8] (fun v7 v8 wc => ∃ p q : Nat, v7 = .pointer (some ⟨p, 0, none⟩) ∧ v8 = .pointer (some ⟨q, 0, none⟩) ∧ Aside0 (wc.heap[p]? = some (.cells x.cs 91 (0, 0)) ∧ wc.heap[q]? = some (.cells y.cs 91 (0, 0)) ∧ wc.heap[g]? = some (.cells #[.slice (some ad) L.length c, .func (.func 27) #[] #[.pointer (some ⟨gc, 0, none⟩)], .int .i64 came] 88 (0, 0))) ∧ Aside0 (Below W.heap.size W wc))
 case first =>
  go_region_held3 (fun w' => w'.cell? ⟨g, 0, none⟩ = some (.slice (some ad) L.length c) ∧ w'.cell? (ad.add (i.toNat * 2)) = some (.slice x.f0.A x.f0.n x.f0.c) ∧ w'.cell? ⟨(ad.add (i.toNat * 2)).block, (ad.add (i.toNat * 2)).off + 1, none⟩ = some (.int .i64 x.f1) ∧ w'.cell? (ad.add (j.toNat * 2)) = some (.slice y.f0.A y.f0.n y.f0.c) ∧ w'.cell? ⟨(ad.add (j.toNat * 2)).block, (ad.add (j.toNat * 2)).off + 1, none⟩ = some (.int .i64 y.f1)) (go_keep) (fail)
  all_goals
   go_wp2
   go_meet
   obtain ⟨h1, h2, h3, h4⟩ := two_newA W 91 _ _ HG.out
   first
    | exact ⟨_, _, rfl, rfl, ⟨h1, h2, h3⟩, ⟨h4⟩⟩
    | exact ⟨_, _, rfl, rfl, ⟨h2, h1, h3⟩, ⟨h4⟩⟩
 case rest =>
  obtain ⟨p, q, rfl, rfl, HP, HB2⟩ := hcut; clear x0 x1 y0 y1 c0 p1 p2 p3 p4 HB HG; obtain ⟨b1, hb1⟩ : ∃ b, lessL asc x.f0 y.f0 = b := ⟨_, rfl⟩; obtain ⟨b2, hb2⟩ : ∃ b, lessL asc y.f0 x.f0 = b := ⟨_, rfl⟩; have hl1 := fun (w : World) (hw : Below wc.heap.size wc w) => lessL_calls x.f0 y.f0 HRX.out HRY.out w ((HE0.out.1.step (HB2.out.mono HE0.out.2)).step (hw.mono (Nat.le_trans HE0.out.2 HB2.out.size)))
  have hl2 := fun (w : World) (hw : Below wc.heap.size wc w) => lessL_calls y.f0 x.f0 HRY.out HRX.out w ((HE0.out.1.step (HB2.out.mono HE0.out.2)).step (hw.mono (Nat.le_trans HE0.out.2 HB2.out.size)))
  rw [hb1] at hl1; rw [hb2] at hl2; have HL1 := Aside0.mk hl1; have HL2 := Aside0.mk hl2; have hah : Aside0 (ahG91 asc x y = (b1 || (!b2 && decide (x.f1 < y.f1)))) := ⟨by unfold ahG91; rw [hb1, hb2]⟩; have he := fun (vs : Array Value) (w : World) => enters_ Try.func27 (by kernel_rfl) rfl vs w
  clear hb1 hb2 hl1 hl2; have hst := keepT91 HP.out (Below.refl _ _); obtain ⟨s0, s1, s2, s3, s4⟩ := hst; have HBw := Aside0.mk (below_drew (Below.refl wc.heap.size wc)); go_upto_region 2 with (fail)
  cases b1
  ·cases b2
   ·skip; refine start_ (n := 29) (S := fun w' => w'.cell? ⟨p, 0, none⟩ = some (.slice x.f0.A x.f0.n x.f0.c) ∧ w'.cell? ⟨p, 1, none⟩ = some (.int .i64 x.f1) ∧ w'.cell? ⟨q, 0, none⟩ = some (.slice y.f0.A y.f0.n y.f0.c) ∧ w'.cell? ⟨q, 1, none⟩ = some (.int .i64 y.f1) ∧ w'.cell? ⟨g, 1, none⟩ = some (.func (.func 27) #[] #[.pointer (some ⟨gc, 0, none⟩)])) (ds := []) #[N_,N_,N_,N_,N_,N_,N_,N_,N_,N_,N_,N_,N_,N_,N_,N_,N_,N_,N_,N_,N_,N_,N_,N_,N_,N_,N_,N_,N_] (by kernel_rfl) rfl rfl (keepT91 HP.out HBw.out) (fun hHeld => ?_); refine with_tabW ahead91.tab2 ahead91.bits2 (fun HT_ HW_ => ?_); clear s0 s1 s2 s3 s4; refine qY 0 23 HT_.out ?_; refine qY 1 24 HT_.out ?_; refine qY 2 25 HT_.out ?_; refine tY 3 26 HT_.out HW_.out hHeld ?_; refine qY 4 27 HT_.out ?_; refine tY 5 28 HT_.out HW_.out hHeld ?_; refine qY 6 29 HT_.out ?_; refine tY 7 30 HT_.out HW_.out hHeld ?_; refine one_ (i := 8) (N := some 31) #[J_,J_,J_,J_,J_,J_,J_,J_,J_,N_,N_,N_,N_,N_,N_,N_,N_,N_,N_,N_,N_,N_,N_,N_,N_,N_,N_,N_,N_] rfl rfl (one_of HT_.out (by kernel_rfl)) (by decide) (fun K hK => ?_); refine call_ 27 #[.slice x.f0.A x.f0.n x.f0.c, .slice y.f0.A y.f0.n y.f0.c, .pointer (some ⟨gc, 0, none⟩)] (by rfl) rfl (by unfold execOp; first | (simp [resolve, Deferred.ofValue, invoke, Act.eval, he]; done) | (simp [resolve, Deferred.ofValue, invoke, Act.eval, he]; rfl)) ?_; refine (HL1.out _ HBw.out).mono ?_; rintro e w8 ⟨rfl, hb_⟩; have hbb8 := below_step HBw.out hb_; clear hb_; refine ⟨_, rfl, ?_⟩; refine hK.out _ _ (keepT91 HP.out hbb8) (fun hHeld => ?_); clear hK K; refine norm_ (a' := ?_) ?_ ?_; rotate_left
    ·show Act.put _ (some 31) _ = _; simp only [Act.put, List.setIfInBounds_toArray, List.set_cons_zero, List.set_cons_succ, i64_w, i32_w]; rfl
    refine qY 9 32 HT_.out ?_; refine qY 10 33 HT_.out ?_; refine qY 11 34 HT_.out ?_; refine qY 12 35 HT_.out ?_; refine tY 13 36 HT_.out HW_.out hHeld ?_; refine qY 14 37 HT_.out ?_; refine tY 15 38 HT_.out HW_.out hHeld ?_; refine qY 16 39 HT_.out ?_; refine tY 17 40 HT_.out HW_.out hHeld ?_; refine one_ (i := 18) (N := some 41) #[J_,J_,J_,J_,J_,J_,J_,J_,J_,J_,J_,J_,J_,J_,J_,J_,J_,J_,J_,N_,N_,N_,N_,N_,N_,N_,N_,N_,N_] rfl rfl (one_of HT_.out (by kernel_rfl)) (by decide) (fun K hK => ?_); refine call_ 27 #[.slice y.f0.A y.f0.n y.f0.c, .slice x.f0.A x.f0.n x.f0.c, .pointer (some ⟨gc, 0, none⟩)] (by rfl) rfl (by unfold execOp; first | (simp [resolve, Deferred.ofValue, invoke, Act.eval, he]; done) | (simp [resolve, Deferred.ofValue, invoke, Act.eval, he]; rfl)) ?_; refine (HL2.out _ hbb8).mono ?_; rintro e w18 ⟨rfl, hb_⟩; have hbb18 := below_step hbb8 hb_; clear hb_; refine ⟨_, rfl, ?_⟩; refine hK.out _ _ (keepT91 HP.out hbb18) (fun hHeld => ?_); clear hK K; refine norm_ (a' := ?_) ?_ ?_; rotate_left
    ·show Act.put _ (some 41) _ = _; simp only [Act.put, List.setIfInBounds_toArray, List.set_cons_zero, List.set_cons_succ, i64_w, i32_w]; rfl
    refine qY 19 42 HT_.out ?_; refine qY 20 43 HT_.out ?_; refine qY 21 44 HT_.out ?_; refine tY 22 45 HT_.out HW_.out hHeld ?_; refine qY 23 46 HT_.out ?_; refine tY 24 47 HT_.out HW_.out hHeld ?_; refine qY 25 48 HT_.out ?_; refine qY 26 49 HT_.out ?_; refine qY 27 50 HT_.out ?_; refine qY 28 6 HT_.out ?_; refine done_ (done_of HT_.out (by kernel_rfl)) ?_; go_wp2
    go_ret
    exact ⟨by rw [hah.out]; rfl, below_step HB2.out hbb18⟩
   ·skip; refine start_ (n := 29) (S := fun w' => w'.cell? ⟨p, 0, none⟩ = some (.slice x.f0.A x.f0.n x.f0.c) ∧ w'.cell? ⟨p, 1, none⟩ = some (.int .i64 x.f1) ∧ w'.cell? ⟨q, 0, none⟩ = some (.slice y.f0.A y.f0.n y.f0.c) ∧ w'.cell? ⟨q, 1, none⟩ = some (.int .i64 y.f1) ∧ w'.cell? ⟨g, 1, none⟩ = some (.func (.func 27) #[] #[.pointer (some ⟨gc, 0, none⟩)])) (ds := []) #[N_,N_,N_,N_,N_,N_,N_,N_,N_,N_,N_,N_,N_,N_,N_,N_,N_,N_,N_,N_,N_,N_,N_,N_,N_,N_,N_,N_,N_] (by kernel_rfl) rfl rfl (keepT91 HP.out HBw.out) (fun hHeld => ?_); refine with_tabW ahead91.tab2 ahead91.bits2 (fun HT_ HW_ => ?_); clear s0 s1 s2 s3 s4; refine qY 0 23 HT_.out ?_; refine qY 1 24 HT_.out ?_; refine qY 2 25 HT_.out ?_; refine tY 3 26 HT_.out HW_.out hHeld ?_; refine qY 4 27 HT_.out ?_; refine tY 5 28 HT_.out HW_.out hHeld ?_; refine qY 6 29 HT_.out ?_; refine tY 7 30 HT_.out HW_.out hHeld ?_; refine one_ (i := 8) (N := some 31) #[J_,J_,J_,J_,J_,J_,J_,J_,J_,N_,N_,N_,N_,N_,N_,N_,N_,N_,N_,N_,N_,N_,N_,N_,N_,N_,N_,N_,N_] rfl rfl (one_of HT_.out (by kernel_rfl)) (by decide) (fun K hK => ?_); refine call_ 27 #[.slice x.f0.A x.f0.n x.f0.c, .slice y.f0.A y.f0.n y.f0.c, .pointer (some ⟨gc, 0, none⟩)] (by rfl) rfl (by unfold execOp; first | (simp [resolve, Deferred.ofValue, invoke, Act.eval, he]; done) | (simp [resolve, Deferred.ofValue, invoke, Act.eval, he]; rfl)) ?_; refine (HL1.out _ HBw.out).mono ?_; rintro e w8 ⟨rfl, hb_⟩; have hbb8 := below_step HBw.out hb_; clear hb_; refine ⟨_, rfl, ?_⟩; refine hK.out _ _ (keepT91 HP.out hbb8) (fun hHeld => ?_); clear hK K; refine norm_ (a' := ?_) ?_ ?_; rotate_left
    ·show Act.put _ (some 31) _ = _; simp only [Act.put, List.setIfInBounds_toArray, List.set_cons_zero, List.set_cons_succ, i64_w, i32_w]; rfl
    refine qY 9 32 HT_.out ?_; refine qY 10 33 HT_.out ?_; refine qY 11 34 HT_.out ?_; refine qY 12 35 HT_.out ?_; refine tY 13 36 HT_.out HW_.out hHeld ?_; refine qY 14 37 HT_.out ?_; refine tY 15 38 HT_.out HW_.out hHeld ?_; refine qY 16 39 HT_.out ?_; refine tY 17 40 HT_.out HW_.out hHeld ?_; refine one_ (i := 18) (N := some 41) #[J_,J_,J_,J_,J_,J_,J_,J_,J_,J_,J_,J_,J_,J_,J_,J_,J_,J_,J_,N_,N_,N_,N_,N_,N_,N_,N_,N_,N_] rfl rfl (one_of HT_.out (by kernel_rfl)) (by decide) (fun K hK => ?_); refine call_ 27 #[.slice y.f0.A y.f0.n y.f0.c, .slice x.f0.A x.f0.n x.f0.c, .pointer (some ⟨gc, 0, none⟩)] (by rfl) rfl (by unfold execOp; first | (simp [resolve, Deferred.ofValue, invoke, Act.eval, he]; done) | (simp [resolve, Deferred.ofValue, invoke, Act.eval, he]; rfl)) ?_; refine (HL2.out _ hbb8).mono ?_; rintro e w18 ⟨rfl, hb_⟩; have hbb18 := below_step hbb8 hb_; clear hb_; refine ⟨_, rfl, ?_⟩; refine hK.out _ _ (keepT91 HP.out hbb18) (fun hHeld => ?_); clear hK K; refine norm_ (a' := ?_) ?_ ?_; rotate_left
    ·show Act.put _ (some 41) _ = _; simp only [Act.put, List.setIfInBounds_toArray, List.set_cons_zero, List.set_cons_succ, i64_w, i32_w]; rfl
    refine qY 19 42 HT_.out ?_; refine qY 20 43 HT_.out ?_; refine pS 21 44 #[J_,J_,J_,J_,J_,J_,J_,J_,J_,J_,J_,J_,J_,J_,J_,J_,J_,J_,J_,J_,J_,J_,N_,N_,N_,N_,N_,N_,N_] HT_.out ?_; refine pS 22 45 #[J_,J_,J_,J_,J_,J_,J_,J_,J_,J_,J_,J_,J_,J_,J_,J_,J_,J_,J_,J_,J_,J_,J_,N_,N_,N_,N_,N_,N_] HT_.out ?_; refine pS 23 46 #[J_,J_,J_,J_,J_,J_,J_,J_,J_,J_,J_,J_,J_,J_,J_,J_,J_,J_,J_,J_,J_,J_,J_,J_,N_,N_,N_,N_,N_] HT_.out ?_; refine pS 24 47 #[J_,J_,J_,J_,J_,J_,J_,J_,J_,J_,J_,J_,J_,J_,J_,J_,J_,J_,J_,J_,J_,J_,J_,J_,J_,N_,N_,N_,N_] HT_.out ?_; refine pS 25 48 #[J_,J_,J_,J_,J_,J_,J_,J_,J_,J_,J_,J_,J_,J_,J_,J_,J_,J_,J_,J_,J_,J_,J_,J_,J_,J_,N_,N_,N_] HT_.out ?_; refine qY 26 49 HT_.out ?_; refine qY 27 50 HT_.out ?_; refine qY 28 6 HT_.out ?_; refine done_ (done_of HT_.out (by kernel_rfl)) ?_; go_wp2
    go_ret
    exact ⟨by rw [hah.out]; rfl, below_step HB2.out hbb18⟩
  ·skip; refine start_ (n := 29) (S := fun w' => w'.cell? ⟨p, 0, none⟩ = some (.slice x.f0.A x.f0.n x.f0.c) ∧ w'.cell? ⟨p, 1, none⟩ = some (.int .i64 x.f1) ∧ w'.cell? ⟨q, 0, none⟩ = some (.slice y.f0.A y.f0.n y.f0.c) ∧ w'.cell? ⟨q, 1, none⟩ = some (.int .i64 y.f1) ∧ w'.cell? ⟨g, 1, none⟩ = some (.func (.func 27) #[] #[.pointer (some ⟨gc, 0, none⟩)])) (ds := []) #[N_,N_,N_,N_,N_,N_,N_,N_,N_,N_,N_,N_,N_,N_,N_,N_,N_,N_,N_,N_,N_,N_,N_,N_,N_,N_,N_,N_,N_] (by kernel_rfl) rfl rfl (keepT91 HP.out HBw.out) (fun hHeld => ?_); refine with_tabW ahead91.tab2 ahead91.bits2 (fun HT_ HW_ => ?_); clear s0 s1 s2 s3 s4; refine qY 0 23 HT_.out ?_; refine qY 1 24 HT_.out ?_; refine qY 2 25 HT_.out ?_; refine tY 3 26 HT_.out HW_.out hHeld ?_; refine qY 4 27 HT_.out ?_; refine tY 5 28 HT_.out HW_.out hHeld ?_; refine qY 6 29 HT_.out ?_; refine tY 7 30 HT_.out HW_.out hHeld ?_; refine one_ (i := 8) (N := some 31) #[J_,J_,J_,J_,J_,J_,J_,J_,J_,N_,N_,N_,N_,N_,N_,N_,N_,N_,N_,N_,N_,N_,N_,N_,N_,N_,N_,N_,N_] rfl rfl (one_of HT_.out (by kernel_rfl)) (by decide) (fun K hK => ?_); refine call_ 27 #[.slice x.f0.A x.f0.n x.f0.c, .slice y.f0.A y.f0.n y.f0.c, .pointer (some ⟨gc, 0, none⟩)] (by rfl) rfl (by unfold execOp; first | (simp [resolve, Deferred.ofValue, invoke, Act.eval, he]; done) | (simp [resolve, Deferred.ofValue, invoke, Act.eval, he]; rfl)) ?_; refine (HL1.out _ HBw.out).mono ?_; rintro e w8 ⟨rfl, hb_⟩; have hbb8 := below_step HBw.out hb_; clear hb_; refine ⟨_, rfl, ?_⟩; refine hK.out _ _ (keepT91 HP.out hbb8) (fun hHeld => ?_); clear hK K; refine norm_ (a' := ?_) ?_ ?_; rotate_left
   ·show Act.put _ (some 31) _ = _; simp only [Act.put, List.setIfInBounds_toArray, List.set_cons_zero, List.set_cons_succ, i64_w, i32_w]; rfl
   refine qY 9 32 HT_.out ?_; refine pS 10 33 #[J_,J_,J_,J_,J_,J_,J_,J_,J_,J_,J_,N_,N_,N_,N_,N_,N_,N_,N_,N_,N_,N_,N_,N_,N_,N_,N_,N_,N_] HT_.out ?_; refine pS 11 34 #[J_,J_,J_,J_,J_,J_,J_,J_,J_,J_,J_,J_,N_,N_,N_,N_,N_,N_,N_,N_,N_,N_,N_,N_,N_,N_,N_,N_,N_] HT_.out ?_; refine pS 12 35 #[J_,J_,J_,J_,J_,J_,J_,J_,J_,J_,J_,J_,J_,N_,N_,N_,N_,N_,N_,N_,N_,N_,N_,N_,N_,N_,N_,N_,N_] HT_.out ?_; refine pS 13 36 #[J_,J_,J_,J_,J_,J_,J_,J_,J_,J_,J_,J_,J_,J_,N_,N_,N_,N_,N_,N_,N_,N_,N_,N_,N_,N_,N_,N_,N_] HT_.out ?_; refine pS 14 37 #[J_,J_,J_,J_,J_,J_,J_,J_,J_,J_,J_,J_,J_,J_,J_,N_,N_,N_,N_,N_,N_,N_,N_,N_,N_,N_,N_,N_,N_] HT_.out ?_; refine pS 15 38 #[J_,J_,J_,J_,J_,J_,J_,J_,J_,J_,J_,J_,J_,J_,J_,J_,N_,N_,N_,N_,N_,N_,N_,N_,N_,N_,N_,N_,N_] HT_.out ?_; refine pS 16 39 #[J_,J_,J_,J_,J_,J_,J_,J_,J_,J_,J_,J_,J_,J_,J_,J_,J_,N_,N_,N_,N_,N_,N_,N_,N_,N_,N_,N_,N_] HT_.out ?_; refine pS 17 40 #[J_,J_,J_,J_,J_,J_,J_,J_,J_,J_,J_,J_,J_,J_,J_,J_,J_,J_,N_,N_,N_,N_,N_,N_,N_,N_,N_,N_,N_] HT_.out ?_; refine pS 18 41 #[J_,J_,J_,J_,J_,J_,J_,J_,J_,J_,J_,J_,J_,J_,J_,J_,J_,J_,J_,N_,N_,N_,N_,N_,N_,N_,N_,N_,N_] HT_.out ?_; refine pS 19 42 #[J_,J_,J_,J_,J_,J_,J_,J_,J_,J_,J_,J_,J_,J_,J_,J_,J_,J_,J_,J_,N_,N_,N_,N_,N_,N_,N_,N_,N_] HT_.out ?_; refine pS 20 43 #[J_,J_,J_,J_,J_,J_,J_,J_,J_,J_,J_,J_,J_,J_,J_,J_,J_,J_,J_,J_,J_,N_,N_,N_,N_,N_,N_,N_,N_] HT_.out ?_; refine pS 21 44 #[J_,J_,J_,J_,J_,J_,J_,J_,J_,J_,J_,J_,J_,J_,J_,J_,J_,J_,J_,J_,J_,J_,N_,N_,N_,N_,N_,N_,N_] HT_.out ?_; refine pS 22 45 #[J_,J_,J_,J_,J_,J_,J_,J_,J_,J_,J_,J_,J_,J_,J_,J_,J_,J_,J_,J_,J_,J_,J_,N_,N_,N_,N_,N_,N_] HT_.out ?_; refine pS 23 46 #[J_,J_,J_,J_,J_,J_,J_,J_,J_,J_,J_,J_,J_,J_,J_,J_,J_,J_,J_,J_,J_,J_,J_,J_,N_,N_,N_,N_,N_] HT_.out ?_; refine pS 24 47 #[J_,J_,J_,J_,J_,J_,J_,J_,J_,J_,J_,J_,J_,J_,J_,J_,J_,J_,J_,J_,J_,J_,J_,J_,J_,N_,N_,N_,N_] HT_.out ?_; refine pS 25 48 #[J_,J_,J_,J_,J_,J_,J_,J_,J_,J_,J_,J_,J_,J_,J_,J_,J_,J_,J_,J_,J_,J_,J_,J_,J_,J_,N_,N_,N_] HT_.out ?_; refine pS 26 49 #[J_,J_,J_,J_,J_,J_,J_,J_,J_,J_,J_,J_,J_,J_,J_,J_,J_,J_,J_,J_,J_,J_,J_,J_,J_,J_,J_,N_,N_] HT_.out ?_; refine qY 27 50 HT_.out ?_; refine qY 28 6 HT_.out ?_; refine done_ (done_of HT_.out (by kernel_rfl)) ?_; go_wp2
   go_ret
   exact ⟨by rw [hah.out]; rfl, below_step HB2.out hbb8⟩
theorem ahead91_nat (W : World) (g base : Nat) (row : Option Nat) (L : List S91) (came : Int) (i j : Nat) (b : Bool) (hS : HSG91 gc W g base row L came) (hE : Env91 asc W0 W base gc) (hAR : AllRd91 W0 L) (hi : i < L.length) (hj : j < L.length) (hb : ahG91 asc (hgt L i) (hgt L j) = b) :
  Calls Try.prog 53 #[.pointer (some ⟨g, 0, none⟩), .int .i64 i, .int .i64 j] W fun e w' => e = .returned (.bool b) ∧ Below W.heap.size W w' := by
 have := ahead91_calls W g base row L came i j hS hE hAR (by omega) (by omega) (by omega) (by omega)
 rwa [rd91, rd91, Int.toNat_natCast, Int.toNat_natCast, hb] at this
section
variable {W : World} {base gr n cap : Nat} {ok : Nat → Prop} {L : List S91}
/-- one thing is put into its place -/
theorem put91 (hR : k91.R 91 W base ok (.slice (some ⟨gr, 0, none⟩) n cap) L) (i : Nat) (hi : i < n) (x : S91) :
  k91.R 91 (((W.setCell ⟨gr, i * 2, none⟩ (.slice x.f0.A x.f0.n x.f0.c)).setCell ⟨gr, i * 2 + 1, none⟩ (.int .i64 x.f1))) base ok (.slice (some ⟨gr, 0, none⟩) n cap) (L.set i x) ∧
  W.grownBy (((W.setCell ⟨gr, i * 2, none⟩ (.slice x.f0.A x.f0.n x.f0.c)).setCell ⟨gr, i * 2 + 1, none⟩ (.int .i64 x.f1))) (some gr) := by
 obtain ⟨c, hcl, hM, hcc, _⟩ := Kd.R_elem hR z91 i (by omega) (by omega)
 rw [Int.toNat_natCast] at hcc
 have h2 : k91.sz = 2 := rfl
 rw [h2] at hcl hcc
 have hd : c.take 0 ++ [.slice x.f0.A x.f0.n x.f0.c, .int .i64 x.f1] ++ c.drop (0 + 2) = [.slice x.f0.A x.f0.n x.f0.c, .int .i64 x.f1] := by
  rw [List.take_zero, List.nil_append, List.drop_of_length_le (by omega), List.append_nil]
 have := Kd.R_seg (okp := fun _ => False) hR i (by omega) (by omega) (c := c) (seg := [.slice x.f0.A x.f0.n x.f0.c, .int .i64 x.f1]) (j := 0) (x' := x) hcl (by rw [Int.toNat_natCast]; exact hcc) (by show 0 + 2 ≤ 2; omega) (by rw [show ([.slice x.f0.A x.f0.n x.f0.c, .int .i64 x.f1] : List Value).length = 2 from rfl, hd]; exact k91_mkM _ _ _ x) (fun k hk => hk.elim)
 rw [Int.toNat_natCast, h2, Nat.add_zero] at this
 exact this
/-- the world behind an exchange -/
def exW91 (w : World) (gr i j : Nat) (x y : S91) : World := ((((w.setCell ⟨gr, i * 2, none⟩ (.slice x.f0.A x.f0.n x.f0.c)).setCell ⟨gr, i * 2 + 1, none⟩ (.int .i64 x.f1)).setCell ⟨gr, j * 2, none⟩ (.slice y.f0.A y.f0.n y.f0.c)).setCell ⟨gr, j * 2 + 1, none⟩ (.int .i64 y.f1))
/-- two things change places -/
theorem swap91 (hR : k91.R 91 W base ok (.slice (some ⟨gr, 0, none⟩) n cap) L) (i j : Nat) (hi : i < n) (hj : j < n) :
  k91.R 91 (exW91 W gr i j (hgt L j) (hgt L i)) base ok (.slice (some ⟨gr, 0, none⟩) n cap) (swp L i j) ∧ W.grownBy (exW91 W gr i j (hgt L j) (hgt L i)) (some gr) := by
 obtain ⟨h1, g1⟩ := put91 hR i hi (hgt L j)
 obtain ⟨h2, g2⟩ := put91 h1 j hj (hgt L i)
 exact ⟨h2, g1.trans g2⟩
/-- a place: its cells -/
theorem cells91 (hR : k91.R 91 W base ok (.slice (some ⟨gr, 0, none⟩) n cap) L) (i : Nat) (hi : i < n) :
  W.cell? ⟨gr, i * 2, none⟩ = some (.slice (hgt L i).f0.A (hgt L i).f0.n (hgt L i).f0.c) ∧ W.cell? ⟨gr, i * 2 + 1, none⟩ = some (.int .i64 (hgt L i).f1) ∧ W.frozen? ⟨gr, i * 2, none⟩ = false ∧ W.frozen? ⟨gr, i * 2 + 1, none⟩ = false := by
 obtain ⟨c, hcl, hM, hcc, hf⟩ := Kd.R_elem hR z91 i (by omega) (by omega)
 obtain rfl := k91_openM hM
 rw [Int.toNat_natCast] at hcc hf
 exact ⟨hcc 0 _ rfl, hcc 1 _ rfl, hf 0, hf 1⟩
end
end Go.Proofs.Ytaehlbbjbeibfaa.X
end

section
namespace Go.Proofs.Ytaehlbbjbeibfaa.X
open Go.RowKit Go.Proofs.YtaehlbbjbeibfaaW.PrintWords Go.Proofs.YtaehlbbjbeibfaaW.PrintLast Go.Proofs.YtaehlbbjbeibfaaW.PrintMore
attribute [local go_sem] max2_int min2_int max_two min_two max_three min_three max_four min_four
set_option linter.unusedVariables false
set_option linter.unusedSimpArgs false

open Go.Proofs.Ytaehlbbjbeibfaa
variable {asc : Bool} {W0 : World} {gc : Nat}
def lst91 (asc : Bool) (M : List S91) (j : Nat) : Nat → Nat
 | 0 => j
 | q + 1 => if 2 * j + 1 + q < M.length ∧ (ahG91 asc) (hgt M (2 * j + 1 + q)) (hgt M (lst91 asc M j q)) = true then 2 * j + 1 + q else lst91 asc M j q
theorem lst91_two (M : List S91) (j : Nat) : lst91 asc M j 2 = kid2 (ahG91 asc) M j := rfl
theorem lst91_lt (M : List S91) (j q : Nat) (h : 2 * j + 1 + q < M.length) : lst91 asc M j q < M.length ∧ lst91 asc M j q < 2 * j + 1 + q := by
 induction q with
 | zero => unfold lst91; omega
 | succ q ih =>
  have := ih (by omega)
  unfold lst91
  split <;> omega
theorem lst91_le (M : List S91) (j q : Nat) (h : j < 1099511627776) (hq : q ≤ 2) : lst91 asc M j q ≤ 2 * j + 2 := by
 induction q with
 | zero => unfold lst91; omega
 | succ q ih =>
  have := ih (by omega)
  unfold lst91
  split <;> omega
set_option maxHeartbeats 1000000 in
set_option maxRecDepth 1000000 in
theorem down91_calls (W : World) (g base : Nat) (row : Option Nat) (L : List S91) (came : Int) (k : Nat) (hS : HSG91 gc W g base row L came) (hE : Env91 asc W0 W base gc) (hAR : AllRd91 W0 L) (hk : k < 1099511627776) (hl : L.length < 1099511627776) :
  Calls Try.prog 44 #[.pointer (some ⟨g, 0, none⟩), .int .i64 k] W fun e w' => e = .returned (.tuple #[]) ∧ HSG91 gc w' g base row (downF (ahG91 asc) L k) came ∧ HpTo W w' g base row row := by
 have HS := Aside0.mk hS; have HE0 := Aside0.mk hE; have HAR := Aside0.mk hAR; have HT := Aside0.mk (HpTo.refl W g base row); have HK := Aside0.mk hk; have HL := Aside0.mk hl; clear hS hk hl hE hAR; go_enter Try.func44, Try.ntmps44
 go_wp2
 go_loopw [1] (fun v1 wr => ∃ (j : Nat) (M : List S91), v1 = .int .i64 j ∧ Aside0 (j < 1099511627776) ∧ Aside0 (M.length = L.length) ∧ Aside0 (downF (ahG91 asc) M j = downF (ahG91 asc) L k) ∧ Aside0 (AllRd91 W0 M) ∧ Aside0 (HSG91 gc wr g base row M came) ∧ Aside0 (HpTo W wr g base row row)) (fun v1 _ => L.length - (intOf v1).toNat)
 case atStart => exact ⟨k, L, rfl, HK, ⟨rfl⟩, ⟨rfl⟩, HAR, HS, HT⟩
 case round =>
  clear HS HT HK HAR; obtain ⟨j, M, rfl, HK, HE, HU, HAR, HS, HT⟩ := hrel; have hjl := HK.out; have hml : M.length < 1099511627776 := by have := HE.out; have := HL.out; omega
  have hw0 : IntKind.i64.wrap (2 * (j : Int)) = 2 * (j : Int) := by rw [IntKind.wrap_i64]; omega
  have hw1 : IntKind.i64.wrap (2 * (j : Int) + 1) = 2 * (j : Int) + 1 := by rw [IntKind.wrap_i64]; omega
  have hw2 : IntKind.i64.wrap (2 * (j : Int) + 2) = 2 * (j : Int) + 2 := by rw [IntKind.wrap_i64]; omega
  have HN := Aside0.mk (blk_new wr (.cells #[.int .i64 (2 * (j : Int) + 1), .int .i64 (2 * (j : Int) + 2)] 3)); have n1_ := Aside0.mk (HS.out.below (below_alloc (Below.refl _ _) (.cells #[.int .i64 (2 * (j : Int) + 1), .int .i64 (2 * (j : Int) + 2)] 3))); have n2_ := Aside0.mk (HT.out.then_below (below_alloc (Below.refl _ _) (.cells #[.int .i64 (2 * (j : Int) + 1), .int .i64 (2 * (j : Int) + 2)] 3)) HS.out.size); clear HS HT; have HS := n1_; have HT := n2_; clear n1_ n2_; go_wp2
  generalize wr.alloc (.cells #[.int .i64 (2 * (j : Int) + 1), .int .i64 (2 * (j : Int) + 2)] 3) = wa at HS HT HN ⊢; generalize wr.heap.size = kb at HN ⊢; clear hw0 hw1 hw2; go_loopw [4, 16] (fun v4 v16 wi => ∃ q : Nat, q ≤ 2 ∧ v16 = .int .i64 q ∧ v4 = .int .i64 (lst91 asc M j q) ∧ Aside0 (wi.heap[kb]? = some (.cells #[.int .i64 (2 * (j : Int) + 1), .int .i64 (2 * (j : Int) + 2)] 3 (0, 0))) ∧ Aside0 (HSG91 gc wi g base row M came) ∧ Aside0 (HpTo W wi g base row row)) (fun _ v16 _ => 2 - (intOf v16).toNat)
  case atStart => exact ⟨0, by omega, rfl, rfl, HN, HS, HT⟩
  case round =>
   clear HS HT HN; obtain ⟨q, hq, rfl, rfl, HN, HS, HT⟩ := hrel; by_cases hq2 : q = 2
   ·subst hq2; have hu := HU.out; rw [downF] at hu; rw [lst91_two]; have hkc := kid2_cases (ahG91 asc) M j; obtain ⟨m, hm⟩ : ∃ m : Nat, kid2 (ahG91 asc) M j = m := ⟨_, rfl⟩; rw [hm] at hkc hu ⊢; by_cases hmj : m = j
    ·rw [dif_pos hmj] at hu; have e1 : ((m : Int) == (j : Int)) = true := by rw [hmj]; exact beq_self_eq_true _
     have HU2 := Aside0.mk hu; clear hu hm hkc hmj HU HN; go_wp2
     refine bodyPost_ret (results_none rfl _ _ _) rfl ?_; exact ⟨rfl, HU2.out ▸ HS.out, HT.out⟩
    ·rw [dif_neg hmj] at hu; have hml2 : m < M.length := by omega
     have hjm : j < m := by omega
     have hjl2 : j < M.length := by omega
     have e1 : ((m : Int) == (j : Int)) = false := by simp; omega
     have HU2 := Aside0.mk hu; clear hu hm hkc HU HN; go_upto_region 8 with (fail)
     obtain ⟨v, hv, hb, hR, hg⟩ := HS.out; obtain ⟨gr, cap, rfl, hgr, hgl, _⟩ := Kd.R_form hR (by omega); obtain ⟨x0, x1, xf0, xf1⟩ := cells91 hR j hjl2; obtain ⟨y0, y1, yf0, yf1⟩ := cells91 hR m hml2; have c0 : wr.cell? ⟨g, 0, none⟩ = some (.slice (some ⟨gr, 0, none⟩) M.length cap) := (blk_cell hb 0).trans rfl; have HR := Aside0.mk hR; have HB := Aside0.mk hb; have HG := Aside0.mk hg; have HV := Aside0.mk hv; obtain ⟨SW, SG⟩ := swap91 hR j m hjl2 hml2; have HSW := Aside0.mk SW; have HSG := Aside0.mk SG; obtain ⟨xj, hxj⟩ : ∃ x, hgt M j = x := ⟨_, rfl⟩; obtain ⟨xp, hxp⟩ : ∃ x, hgt M m = x := ⟨_, rfl⟩; rw [hxj] at x0 x1 HSW HSG; rw [hxp] at y0 y1 HSW HSG; have q1 : (j : Int) < (M.length : Int) := by omega
     have q2 : (m : Int) < (M.length : Int) := by omega
     have q3 : 0 ≤ (m : Int) := by omega
     have q4 : 0 ≤ (j : Int) := by omega
     clear hR hb hg hv SW SG hxj hxp hgr hgl; go_region
     have n1_ : Aside0 (HSG91 gc (exW91 wr gr j m xp xj).drew g base row (swp M j m) came) :=
      ⟨_, HV.out, blk_drew (blk_grown HB.out HSG.out (fun e => HR.out.1 gr rfl (Option.some.inj e).symm)), Kd.R_drew HSW.out, HG.out⟩
     have n2_ : Aside0 (HpTo W (exW91 wr gr j m xp xj).drew g base row row) :=
      ⟨(HT.out.then_grown HS.out.size (fun k hk => (HS.out.row_ k hk).1) (show wr.grownBy (exW91 wr gr j m xp xj) row from HV.out ▸ HSG.out) (.inl rfl)).then_below (below_drew (Below.refl _ _)) (Nat.le_trans HS.out.size HSG.out.size)⟩
     clear x0 x1 y0 y1 xf0 xf1 yf0 yf1 c0 HR HB HG HV HSW HSG HS HT; change Aside0 (HSG91 gc _ g base row (swp M j m) came) at n1_; generalize hW : (exW91 wr gr j m xp xj).drew = w2 at n1_ n2_; unfold exW91 at hW; rw [hW]; clear hW; go_wp2
     go_roundw
     case measure => have := HE.out; simp [intOf]; omega
     case rel => exact ⟨m, swp M j m, rfl, ⟨by omega⟩, ⟨by rw [swp_len]; exact HE.out⟩, HU2, ⟨HAR.out.perm (swp_perm M j m hjl2 hml2)⟩, n1_, n2_⟩
   ·have hqlt : (q : Int) < 2 := by omega
    have hq0 : 0 ≤ (q : Int) := by omega
    obtain ⟨kd, hkd⟩ : ∃ kd : Nat, 2 * j + 1 + q = kd := ⟨_, rfl⟩; obtain ⟨m, hm⟩ : ∃ m : Nat, lst91 asc M j q = m := ⟨_, rfl⟩; have hmb := lst91_le (asc := asc) M j q hjl (by omega); rw [hm] at hmb ⊢
    have hx : wr.cell? ⟨kb, q, none⟩ = some (.int .i64 kd) := by
     refine (blk_cell HN.out q).trans ?_; rcases (show q = 0 ∨ q = 1 by omega) with rfl | rfl
     ·show some (Value.int .i64 (2 * (j : Int) + 1)) = _; rw [← hkd]; congr 2
     ·show some (Value.int .i64 (2 * (j : Int) + 2)) = _; rw [← hkd]; congr 2
    have hl2 : lst91 asc M j (q + 1) = if kd < M.length ∧ (ahG91 asc) (hgt M kd) (hgt M m) = true then kd else m := by
     show (if 2 * j + 1 + q < M.length ∧ (ahG91 asc) (hgt M (2 * j + 1 + q)) (hgt M (lst91 asc M j q)) = true then 2 * j + 1 + q else lst91 asc M j q) = _; rw [hkd, hm]
    have HL2 := Aside0.mk hl2; have hml2 : kd < M.length → m < M.length := fun h => by have := (lst91_lt (asc := asc) M j q (by omega)).1; omega
    clear hl2 hmb hm; obtain ⟨v0, hv0, hb0, hR0, hg0⟩ := HS.out; obtain ⟨A0, cap0, rfl⟩ := Kd.R_slice hR0; have hc0 : wr.cell? ⟨g, 0, none⟩ = some (.slice A0 M.length cap0) := (blk_cell hb0 0).trans rfl; clear hv0 hb0 hR0 hg0; by_cases hin : kd < M.length
    ·obtain ⟨c, hc⟩ : ∃ c, (ahG91 asc) (hgt M kd) (hgt M m) = c := ⟨_, rfl⟩; have hmm := hml2 hin; have i1 : decide ((kd : Int) < (M.length : Int)) = true := decide_eq_true (by omega); have i2 : decide (kd < M.length) = true := decide_eq_true hin; have HC := Aside0.mk hc; clear hml2 hkd; cases c
     ·have hl3 : lst91 asc M j (q + 1) = m := by rw [HL2.out, if_neg (by rw [HC.out]; simp)]
      go_wp2_with (go_at_call 53; (with_reducible refine (ahead91_nat _ g base row M came kd m _ HS.out (HE0.out.step HT.out.below) HAR.out hin hmm HC.out).mono ?_); rintro e w1 ⟨rfl, hb⟩; have n1_ := Aside0.mk (HS.out.below hb); have n2_ := Aside0.mk (HT.out.then_below hb HS.out.size); have n3_ := Aside0.mk (blk_below HN.out hb); clear HS HT HN hb hc0; have HS := n1_; have HT := n2_; have HN := n3_; clear n1_ n2_ n3_)
      go_roundw
      case measure => simp [intOf]; omega
      case rel => exact ⟨q + 1, by omega, by go_num, by rw [hl3], HN, HS, HT⟩
     ·have hl3 : lst91 asc M j (q + 1) = kd := by rw [HL2.out, if_pos ⟨hin, HC.out⟩]
      go_wp2_with (go_at_call 53; (with_reducible refine (ahead91_nat _ g base row M came kd m _ HS.out (HE0.out.step HT.out.below) HAR.out hin hmm HC.out).mono ?_); rintro e w1 ⟨rfl, hb⟩; have n1_ := Aside0.mk (HS.out.below hb); have n2_ := Aside0.mk (HT.out.then_below hb HS.out.size); have n3_ := Aside0.mk (blk_below HN.out hb); clear HS HT HN hb hc0; have HS := n1_; have HT := n2_; have HN := n3_; clear n1_ n2_ n3_)
      go_roundw
      case measure => simp [intOf]; omega
      case rel => exact ⟨q + 1, by omega, by go_num, by rw [hl3], HN, HS, HT⟩
    ·have hl3 : lst91 asc M j (q + 1) = m := by rw [HL2.out, if_neg (fun h => hin h.1)]
     have i1 : decide ((kd : Int) < (M.length : Int)) = false := decide_eq_false (by omega); have i2 : decide (kd < M.length) = false := decide_eq_false hin; clear hml2 hkd hin; go_wp2
     go_roundw
     case measure => simp [intOf]; omega
     case rel => exact ⟨q + 1, by omega, by go_num, by rw [hl3], HN, HS, HT⟩
end Go.Proofs.Ytaehlbbjbeibfaa.X
end

section
namespace Go.Proofs.Ytaehlbbjbeibfaa.X
open Go.RowKit Go.Proofs.YtaehlbbjbeibfaaW.PrintWords Go.Proofs.YtaehlbbjbeibfaaW.PrintLast Go.Proofs.YtaehlbbjbeibfaaW.PrintMore
attribute [local go_sem] max2_int min2_int max_two min_two max_three min_three max_four min_four
set_option linter.unusedVariables false
set_option linter.unusedSimpArgs false

open Go.Proofs.Ytaehlbbjbeibfaa
variable {asc : Bool} {W0 : World} {gc : Nat}
set_option maxHeartbeats 1000000 in
set_option maxRecDepth 1000000 in
theorem up91_calls (W : World) (g base : Nat) (row : Option Nat) (L : List S91) (came : Int) (k : Nat) (hS : HSG91 gc W g base row L came) (hE : Env91 asc W0 W base gc) (hAR : AllRd91 W0 L) (hk : k < L.length) (hl : L.length < 4398046511104) :
  Calls Try.prog 42 #[.pointer (some ⟨g, 0, none⟩), .int .i64 k] W fun e w' => e = .returned (.tuple #[]) ∧ HSG91 gc w' g base row (upF (ahG91 asc) L k) came ∧ HpTo W w' g base row row := by
 have HS := Aside0.mk hS; have HE0 := Aside0.mk hE; have HAR := Aside0.mk hAR; have HT := Aside0.mk (HpTo.refl W g base row); have HK := Aside0.mk hk; have HL := Aside0.mk hl; clear hS hk hl hE hAR; go_enter Try.func42, Try.ntmps42
 go_wp2
 go_loopw [1] (fun v1 wr => ∃ (j : Nat) (M : List S91), v1 = .int .i64 j ∧ Aside0 (j < M.length) ∧ Aside0 (M.length < 4398046511104) ∧ Aside0 (upF (ahG91 asc) M j = upF (ahG91 asc) L k) ∧ Aside0 (AllRd91 W0 M) ∧ Aside0 (HSG91 gc wr g base row M came) ∧ Aside0 (HpTo W wr g base row row)) (fun v1 _ => (intOf v1).toNat)
 case atStart => exact ⟨k, L, rfl, HK, HL, ⟨rfl⟩, HAR, HS, HT⟩
 case round =>
  clear HS HT HK HL HAR; obtain ⟨j, M, rfl, HK, HL, HU, HAR, HS, HT⟩ := hrel; have hjl := HK.out; have hml := HL.out; have hnn : 0 ≤ (j : Int) := by omega
  have hjb : (j : Int) < 4398046511104 := by omega
  by_cases h0 : j = 0
  ·subst h0; rw [upF] at HU; simp only [Nat.lt_irrefl, false_and, dite_false] at HU; go_wp2
   refine bodyPost_end (results_none rfl _ _ _) rfl ?_; exact ⟨rfl, HU.out ▸ HS.out, HT.out⟩
  ·have hw1 : IntKind.i64.wrap ((j : Int) - 1) = (j : Int) - 1 := by rw [IntKind.wrap_i64]; omega
   obtain ⟨p, hp⟩ : ∃ p, (j - 1) / 2 = p := ⟨_, rfl⟩; have hq : ((j : Int) - 1).tdiv 2 = (p : Int) := by rw [Int.tdiv_eq_ediv_of_nonneg (by omega)]; omega
   have hpj : p < j := by omega
   have h0b : decide ((j : Int) > 0) = true := decide_eq_true (by omega); have h0c : decide (0 < j) = true := decide_eq_true (by omega); obtain ⟨c, hc⟩ : ∃ c, (ahG91 asc) (hgt M j) (hgt M p) = c := ⟨_, rfl⟩; have hpl : p < M.length := by omega
   cases c
   ·rw [upF] at HU; have hno : ¬ (0 < j ∧ (ahG91 asc) (hgt M j) (hgt M ((j - 1) / 2)) = true) := by rw [hp, hc]; simp
    rw [dif_neg hno] at HU; have HC := Aside0.mk hc; clear hno hc; go_wp2_with (go_at_call 53; (with_reducible refine (ahead91_nat _ g base row M came j p _ HS.out (HE0.out.step HT.out.below) HAR.out HK.out hpl HC.out).mono ?_); rintro e w1 ⟨rfl, hb⟩; have n1_ := Aside0.mk (HS.out.below hb); have n2_ := Aside0.mk (HT.out.then_below hb HS.out.size); clear HS HT hb; have HS := n1_; have HT := n2_; clear n1_ n2_)
    refine bodyPost_end (results_none rfl _ _ _) rfl ?_; exact ⟨rfl, HU.out ▸ HS.out, HT.out⟩
   ·rw [upF] at HU; have hyes : 0 < j ∧ (ahG91 asc) (hgt M j) (hgt M ((j - 1) / 2)) = true := by rw [hp, hc]; exact ⟨by omega, rfl⟩
    rw [dif_pos hyes, hp] at HU; have HC := Aside0.mk hc; clear hyes hc; go_upto_region 1 with (go_at_call 53; (with_reducible refine (ahead91_nat _ g base row M came j p _ HS.out (HE0.out.step HT.out.below) HAR.out HK.out hpl HC.out).mono ?_); rintro e w1 ⟨rfl, hb⟩; have n1_ := Aside0.mk (HS.out.below hb); have n2_ := Aside0.mk (HT.out.then_below hb HS.out.size); clear HS HT hb; have HS := n1_; have HT := n2_; clear n1_ n2_)
    obtain ⟨v, hv, hb, hR, hg⟩ := HS.out; obtain ⟨gr, cap, rfl, hgr, hgl, _⟩ := Kd.R_form hR (by omega); obtain ⟨x0, x1, xf0, xf1⟩ := cells91 hR j hjl; obtain ⟨y0, y1, yf0, yf1⟩ := cells91 hR p hpl; have c0 : w1.cell? ⟨g, 0, none⟩ = some (.slice (some ⟨gr, 0, none⟩) M.length cap) := (blk_cell hb 0).trans rfl; have HR := Aside0.mk hR; have HB := Aside0.mk hb; have HG := Aside0.mk hg; have HV := Aside0.mk hv; obtain ⟨SW, SG⟩ := swap91 hR j p hjl hpl; have HSW := Aside0.mk SW; have HSG := Aside0.mk SG; obtain ⟨xj, hxj⟩ : ∃ x, hgt M j = x := ⟨_, rfl⟩; obtain ⟨xp, hxp⟩ : ∃ x, hgt M p = x := ⟨_, rfl⟩; rw [hxj] at x0 x1 HSW HSG; rw [hxp] at y0 y1 HSW HSG; have q1 : (j : Int) < (M.length : Int) := by omega
    have q2 : (p : Int) < (M.length : Int) := by omega
    have q3 : 0 ≤ (p : Int) := by omega
    clear hR hb hg hv SW SG hxj hxp hgr hgl; go_region
    have n1_ : Aside0 (HSG91 gc (exW91 w1 gr j p xp xj).drew g base row (swp M j p) came) :=
     ⟨_, HV.out, blk_drew (blk_grown HB.out HSG.out (fun e => HR.out.1 gr rfl (Option.some.inj e).symm)), Kd.R_drew HSW.out, HG.out⟩
    have n2_ : Aside0 (HpTo W (exW91 w1 gr j p xp xj).drew g base row row) :=
     ⟨(HT.out.then_grown HS.out.size (fun k hk => (HS.out.row_ k hk).1) (show w1.grownBy (exW91 w1 gr j p xp xj) row from HV.out ▸ HSG.out) (.inl rfl)).then_below (below_drew (Below.refl _ _)) (Nat.le_trans HS.out.size HSG.out.size)⟩
    clear x0 x1 y0 y1 xf0 xf1 yf0 yf1 c0 HR HB HG HV HSW HSG HS HT; change Aside0 (HSG91 gc _ g base row (swp M j p) came) at n1_; generalize hW : (exW91 w1 gr j p xp xj).drew = w2 at n1_ n2_; unfold exW91 at hW; rw [hW]; clear hW; go_wp2
    go_roundw
    case measure => simp [intOf]; omega
    case rel => exact ⟨p, swp M j p, rfl, ⟨by rw [swp_len]; exact hpl⟩, ⟨by rw [swp_len]; exact hml⟩, HU, ⟨HAR.out.perm (swp_perm M j p hjl hpl)⟩, n1_, n2_⟩
end Go.Proofs.Ytaehlbbjbeibfaa.X
end

section
namespace Go.Proofs.Ytaehlbbjbeibfaa.X
open Go.RowKit Go.Proofs.YtaehlbbjbeibfaaW.PrintWords Go.Proofs.YtaehlbbjbeibfaaW.PrintLast Go.Proofs.YtaehlbbjbeibfaaW.PrintMore
attribute [local go_sem] max2_int min2_int max_two min_two max_three min_three max_four min_four
set_option linter.unusedVariables false
set_option linter.unusedSimpArgs false

open Go.Proofs.Ytaehlbbjbeibfaa
variable {asc : Bool} {W0 : World} {gc : Nat}
def hpush91.T3 : Bool × List (List Nat × List Nat) := (true, [([], []), ([], []), ([1], [1]), ([2], [2]), ([3], [3]), ([4], [4]), ([], []), ([], []), ([7], [7]), ([8], [8]), ([9], [9]), ([6, 10], [6, 10]), ([11], [11]), ([5, 12], [5, 12]), ([0, 0, 1, 2, 3, 4, 5, 6, 7, 8, 9, 10, 11, 12, 13], [0]), ([14, 0, 1, 2, 3, 4, 5, 6, 7, 8, 9, 10, 11, 12, 13], [14]), ([15, 0, 1, 2, 3, 4, 5, 6, 7, 8, 9, 10, 11, 12, 13], [15]), ([16, 13, 13, 0, 1, 2, 3, 4, 5, 6, 7, 8, 9, 10, 11, 12, 13], [13, 16])])
def hpush91.B3 : List Nat := [0, 0, 2, 6, 14, 30, 0, 0, 128, 384, 896, 1984, 4032, 8190, 16383, 32767, 65535, 131071]
theorem hpush91.tab3 : rtab .any (opsOf Try.f29 3) = hpush91.T3 := by kernel_rfl
theorem hpush91.bits3 : waitsOk hpush91.T3.2 hpush91.B3 = true := by kernel_rfl
def mk91 (x : (Hdr S26)) (c : Int) : S91 := ⟨x, c⟩
set_option maxHeartbeats 1000000 in
set_option maxRecDepth 1000000 in
theorem push91_calls (W : World) (g base : Nat) (row : Option Nat) (L : List S91) (came : Int) (A : Option Addr) (c : Nat) (xs : List (Hdr S26)) (hS : HSG91 gc W g base row L came) (hE : Env91 asc W0 W base gc) (hAR : AllRd91 W0 L) (hXR : ∀ x ∈ xs, Rd91 W0 x) (hC : ∀ W', KeepBut W W' g row → Kd.C (kHdr) W' A xs.length xs) (hc0 : 0 ≤ came) (hc1 : came + xs.length < 1099511627776) (hl : L.length + xs.length < 1099511627776) (hp : Hp (ahG91 asc) L) :
  Calls Try.prog 29 #[.pointer (some ⟨g, 0, none⟩), .slice A xs.length c] W fun e w' => e = .returned (.tuple #[]) ∧ ∃ row', HSG91 gc w' g base row' (pushL (ahG91 asc) mk91 L came xs) (came + xs.length) ∧ HpTo W w' g base row row' := by
 have HS := Aside0.mk hS; have HE0 := Aside0.mk hE; have HAR := Aside0.mk hAR; have HXR := Aside0.mk hXR; have HT := Aside0.mk (HpTo.refl W g base row); have HC := Aside0.mk hC; have HL := Aside0.mk hl; have HP := Aside0.mk hp; have HA := Aside0.mk (show 0 ≤ came ∧ came + xs.length < 1099511627776 from ⟨hc0, hc1⟩); clear hS hC hl hp hc0 hc1 hE hAR hXR; go_enter Try.func29, Try.ntmps29
 go_wp2
 go_loopw [8] (fun v8 wr => ∃ (i : Nat) (M : List S91) (row1 : Option Nat), v8 = .int .i64 i ∧ i ≤ xs.length ∧ Aside0 (AllRd91 W0 M) ∧ Aside0 (M.length = L.length + i) ∧ Aside0 (Hp (ahG91 asc) M) ∧ Aside0 (pushL (ahG91 asc) mk91 M (came + i) (xs.drop i) = pushL (ahG91 asc) mk91 L came xs) ∧ Aside0 (HSG91 gc wr g base row1 M (came + i)) ∧ Aside0 (HpTo W wr g base row row1)) (fun v8 _ => xs.length - (intOf v8).toNat)
 case atStart => exact ⟨0, L, row, rfl, by omega, HAR, ⟨by omega⟩, HP, ⟨by simp⟩, ⟨by simpa using HS.out⟩, HT⟩
 case round =>
  clear HS HT HP HAR; obtain ⟨i, M, row1, rfl, hi, HAR, HM, HP, HU, HS, HT⟩ := hrel; by_cases hlt : i < xs.length
  ·have hb1 : (i : Int) < (xs.length : Int) := by omega
   have hb0 : 0 ≤ (i : Int) := by omega
   obtain ⟨x, hx⟩ : ∃ x, xs.getD i zHdr = x := ⟨_, rfl⟩; have HX := Aside0.mk (show Rd91 W0 x from HXR.out x (by rw [← hx, List.getD_eq_getElem?_getD, List.getElem?_eq_getElem hlt]; exact List.getElem_mem hlt)); obtain ⟨ad, rfl, hxc⟩ := at_Hdr (HC.out _ HT.out.keep) (i : Int) hb0 hb1
   have hxd : wr.cell? (ad.add i) = some (.slice x.A x.n x.c) := by
    rw [Int.toNat_natCast] at hxc; rwa [hx] at hxc
   have hdrop : xs.drop i = x :: xs.drop (i + 1) := by
    rw [List.drop_eq_getElem_cons hlt]; congr 1; rw [← hx, List.getD_eq_getElem?_getD, List.getElem?_eq_getElem hlt]; rfl
   obtain ⟨ci, hci⟩ : ∃ ci : Int, came + i = ci := ⟨_, rfl⟩; have hU := HU.out; rw [hdrop, hci] at hU; have HU2 : Aside0 (pushL (ahG91 asc) mk91 (pushF (ahG91 asc) M (mk91 x ci)) (ci + 1) (xs.drop (i + 1)) = pushL (ahG91 asc) mk91 L came xs) := ⟨hU⟩; rw [hci] at HS; obtain ⟨v, hv, hb, hR, hg⟩ := HS.out; obtain ⟨A1, cap, rfl⟩ := Kd.R_slice hR; have c0 : wr.cell? ⟨g, 0, none⟩ = some (.slice A1 M.length cap) := (blk_cell hb 0).trans rfl; have c2 : wr.cell? ⟨g, 2, none⟩ = some (.int .i64 ci) := (blk_cell hb 2).trans rfl; have fz : wr.frozen? ⟨g, 0, none⟩ = false := blk_frozen hb 0; have HV := Aside0.mk hv; have HB := Aside0.mk hb; have HR := Aside0.mk hR; have HG := Aside0.mk hg; have HSZ := Aside0.mk HS.out.lt; clear hxc hx hdrop hU HU hv hb hR hg; have hwi : IntKind.i64.wrap ((i : Int) + 1) = (i : Int) + 1 := by have := HL.out; rw [IntKind.wrap_i64]; omega
   go_upto_region 3 with (fail)
   have hne : some g ≠ (Value.slice A1 M.length cap).ownBlock := fun e => HR.out.1 g e.symm rfl
   have hnw : g < wr.heap.size := HSZ.out.1; have hbs : base ≤ wr.heap.size := HS.out.size; have hml : (M.length + 1) * 32 ≤ 140737488355328 := by have := HM.out; have := HL.out; omega
   have HNE := Aside0.mk (And.intro hne (And.intro hnw (And.intro hbs hml))); clear hne hnw hbs hml; refine start_ (n := 18) (S := fun w' => w'.cell? ⟨g, 0, none⟩ = some (.slice A1 M.length cap) ∧ w'.cell? ⟨g, 2, none⟩ = some (.int .i64 ci) ∧ w'.frozen? ⟨g, 0, none⟩ = false) (ds := [17]) #[N_,N_,N_,N_,N_,N_,N_,N_,N_,N_,N_,N_,N_,N_,N_,N_,N_,N_] (by kernel_rfl) rfl rfl ⟨c0, c2, fz⟩ (fun hHeld => ?_); refine with_tabW hpush91.tab3 hpush91.bits3 (fun HT_ HW_ => ?_); clear c0 c2 fz; refine qY 0 12 HT_.out ?_; refine qY 1 13 HT_.out ?_; refine qY 2 14 HT_.out ?_; refine qY 3 15 HT_.out ?_; refine qY 4 16 HT_.out ?_; refine tY 5 17 HT_.out HW_.out hHeld ?_; refine qY 6 18 HT_.out ?_; refine qY 7 19 HT_.out ?_; refine qY 8 20 HT_.out ?_; refine qY 9 21 HT_.out ?_; refine tY 10 22 HT_.out HW_.out hHeld ?_; refine qY 11 23 HT_.out ?_; refine one_ (i := 12) (N := some 24) #[J_,J_,J_,J_,J_,J_,J_,J_,J_,J_,J_,J_,J_,N_,N_,N_,N_,N_] rfl rfl (one_of HT_.out (by kernel_rfl)) (by decide) (fun K hK => ?_); refine event_step (by rfl) (w1 := wr.drew.alloc (.cells #[.slice x.A x.n x.c, .int .i64 ci] 91)) (v := .slice (some ⟨wr.drew.heap.size, 0, none⟩) 1 1) (by first | (go_simp; done) | (go_simp; rfl)) ?_; refine hK.out _ _ (keepA HB.out _) (fun hHeld => ?_); clear hK K; refine norm_ (a' := ?_) ?_ ?_; rotate_left
   ·show Act.put _ (some 24) _ = _; simp only [Act.put, List.setIfInBounds_toArray, List.set_cons_zero, List.set_cons_succ, i64_w, i32_w]; rfl
   refine one_ (i := 13) (N := some 25) #[J_,J_,J_,J_,J_,J_,J_,J_,J_,J_,J_,J_,J_,J_,N_,N_,N_,N_] rfl rfl (one_of HT_.out (by kernel_rfl)) (by decide) (fun K hK => ?_); refine Kd.R_append_step k91 (w0 := wr) (W := wr.drew) base (by rfl) (.tmp 17) (.tmp 24) 84 91 (.agg #[.slice none 0 0, .int .i64 0]) 32 (by rfl) Try.underlying84 info91 rfl (by decide) (by omega) (.slice A1 M.length cap) M (mk91 x ci) [.slice x.A x.n x.c, .int .i64 ci] (fun k_ => k_ ≠ g) (fun _ => False) (by rfl) (by rfl) (k91_mkM _ _ _ (mk91 x ci)) (fun _ hk => hk.elim) (fun k_ hk_ => Nat.ne_of_gt (Nat.lt_of_lt_of_le HNE.out.2.1 hk_)) (Kd.R_drew HR.out) (below_drew (Below.refl _ _)) HNE.out.2.2.1 HNE.out.2.2.2 ?_; intro v2 w9 ho hb hg2 hat; obtain ⟨A2, c2, rfl⟩ := Kd.R_slice ho; refine hK.out _ _ (keepS HB.out hg2 HNE.out.1) (fun hHeld => ?_); clear hK K; refine norm_ (a' := ?_) ?_ ?_; rotate_left
   ·show Act.put _ (some 25) _ = _; simp only [Act.put, List.setIfInBounds_toArray, List.set_cons_zero, List.set_cons_succ, i64_w, i32_w]; rfl
   refine qY 14 26 HT_.out ?_; refine qY 15 27 HT_.out ?_; refine qY 16 28 HT_.out ?_; refine last_ (i := 17) (N := none) #[J_,J_,J_,J_,J_,J_,J_,J_,J_,J_,J_,J_,J_,J_,J_,J_,J_,J_] rfl rfl (one_of HT_.out (by kernel_rfl)) (by decide) (fun K hK => ?_); obtain ⟨s0, s1, s2⟩ := hHeld; refine x_store_step (by rfl) rfl (w1 := w9.setCell ⟨g, 0, none⟩ (.slice A2 (M ++ [mk91 x ci]).length c2)) (by first | (go_simp; done) | (go_simp; rfl)) ?_; refine hK.out _ _ ?_; clear hK K; refine done_ (done_of HT_.out (by kernel_rfl)) ?_; have g1 : (w9.setCell ⟨g, 0, none⟩ (.slice A2 (M ++ [mk91 x ci]).length c2)).heap[g]? = some (.cells #[.slice A2 (M ++ [mk91 x ci]).length c2, .func (.func 27) #[] #[.pointer (some ⟨gc, 0, none⟩)], .int .i64 ci] 88 (0, 0)) := blk_put (blk_grown (blk_drew HB.out) hg2 HNE.out.1) 0 _ rfl; have g2 := Kd.R_far (p := ⟨g, 0, none⟩) ho (fun _ h => h) (.slice A2 (M ++ [mk91 x ci]).length c2); have g3 := ((HT.out.then_below (below_drew (Below.refl _ _)) HNE.out.2.2.1).then_grown (W2 := w9) (row2 := (Value.slice A2 (M ++ [mk91 x ci]).length c2).ownBlock) HNE.out.2.2.1 (fun k hk => (HS.out.row_ k hk).1) (HV.out ▸ hg2) (HV.out ▸ hat)).then_set HG.out 0 (.slice A2 (M ++ [mk91 x ci]).length c2); have hrow2 : ∃ r2, (Value.slice A2 (M ++ [mk91 x ci]).length c2).ownBlock = r2 := ⟨_, rfl⟩; obtain ⟨r2, hr2⟩ := hrow2; rw [hr2] at g3; have HR2 := Aside0.mk hr2; generalize w9.setCell ⟨g, 0, none⟩ (.slice A2 (M ++ [mk91 x ci]).length c2) = w10 at g1 g2 g3 ⊢; clear ho hb hg2 hat s0 s1 s2 HR HB HV HS HNE HSZ hxd HT; have d2 : w10.cell? ⟨g, 2, none⟩ = some (.int .i64 ci) := (blk_cell g1 2).trans rfl; have fz2 : w10.frozen? ⟨g, 2, none⟩ = false := blk_frozen g1 2; have hw4 : IntKind.i64.wrap (ci + 1) = ci + 1 := by have := HA.out; rw [IntKind.wrap_i64]; omega
   have G1 := Aside0.mk (show (w10.setCell ⟨g, 2, none⟩ (.int .i64 (ci + 1))).heap[g]? = some (.cells #[.slice A2 (M ++ [mk91 x ci]).length c2, .func (.func 27) #[] #[.pointer (some ⟨gc, 0, none⟩)], .int .i64 (ci + 1)] 88 (0, 0)) from blk_put g1 2 _ rfl); have G2 := Aside0.mk (Kd.R_far (p := ⟨g, 2, none⟩) g2 (fun _ h => h) (.int .i64 (ci + 1))); have G3 := Aside0.mk (g3.then_set HG.out 2 (.int .i64 (ci + 1))); clear g1 g2 g3 hr2; go_upto_region 5 with (fail)
   generalize w10.setCell ⟨g, 2, none⟩ (.int .i64 (ci + 1)) = w11 at G1 G2 G3 ⊢; clear d2 fz2 hw4; have HS11 : Aside0 (HSG91 gc w11 g base r2 (M ++ [mk91 x ci]) (ci + 1)) := ⟨_, HR2.out, G1.out, G2.out, HG.out⟩; have e0 : w11.cell? ⟨g, 0, none⟩ = some (.slice A2 (M ++ [mk91 x ci]).length c2) := (blk_cell G1.out 0).trans rfl; have hlen : (M ++ [mk91 x ci]).length = M.length + 1 := by simp
   rw [hlen] at e0; have hw5 : IntKind.i64.wrap (((M.length + 1 : Nat) : Int) - 1) = (M.length : Int) := by have := HM.out; have := HL.out; rw [IntKind.wrap_i64]; omega
   clear G1 G2; have hw6 : IntKind.i64.wrap (M.length : Int) = (M.length : Int) := by have := HM.out; have := HL.out; rw [IntKind.wrap_i64]; omega
   have HS12 := Aside0.mk (HS11.out.below (below_drew (Below.refl _ _))); have HT12 := Aside0.mk (G3.out.then_below (below_drew (Below.refl _ _)) HS11.out.size); have HK12 := Aside0.mk (show M.length < (M ++ [mk91 x ci]).length ∧ (M ++ [mk91 x ci]).length < 4398046511104 by have := HM.out; have := HL.out; omega); have HAR2 := Aside0.mk (show AllRd91 W0 (M ++ [mk91 x ci]) from HAR.out.snoc HX.out); clear hlen; go_region_with (go_at_call 42; (with_reducible refine (up91_calls _ g base r2 (M ++ [mk91 x ci]) (ci + 1) M.length HS12.out (HE0.out.step HT12.out.below) HAR2.out HK12.out.1 HK12.out.2).mono ?_); rintro e w12 ⟨rfl, hS13, hT13⟩; have HS13 := Aside0.mk hS13; have HT13 := Aside0.mk (HT12.out.trans hT13); clear hS13 hT13)
   go_wp2
   go_roundw
   case measure => simp only [intOf, Array.getD_eq_getD_getElem?]; simp; omega
   case rel =>
    refine ⟨i + 1, pushF (ahG91 asc) M (mk91 x ci), r2, by go_num, by omega, ⟨HAR2.out.perm (pushF_spec (hordG91 asc) M _ HP.out).2⟩, ⟨?_⟩, ⟨(pushF_spec (hordG91 asc) M _ HP.out).1⟩, ⟨?_⟩, ⟨?_⟩, HT13⟩
    ·rw [pushF_len (hordG91 asc) M _ HP.out, HM.out]; omega
    ·rw [← HU2.out]; congr 1; omega
    ·have := HS13.out; rw [show came + ((i + 1 : Nat) : Int) = ci + 1 by rw [← hci]; push_cast; omega]; exact this
  ·have hie : i = xs.length := by omega
   subst hie; have hb1 : decide ((xs.length : Int) < (xs.length : Int)) = false := decide_eq_false (by omega); have hU := HU.out; rw [List.drop_length] at hU; have HU2 : Aside0 (M = pushL (ahG91 asc) mk91 L came xs) := ⟨hU⟩; clear hU HU hlt; go_wp2
   refine bodyPost_end (results_none rfl _ _ _) rfl ?_; exact ⟨rfl, row1, HU2.out ▸ HS.out, HT.out⟩
end Go.Proofs.Ytaehlbbjbeibfaa.X
end

section
namespace Go.Proofs.Ytaehlbbjbeibfaa.X
open Go.RowKit Go.Proofs.YtaehlbbjbeibfaaW.PrintWords Go.Proofs.YtaehlbbjbeibfaaW.PrintLast Go.Proofs.YtaehlbbjbeibfaaW.PrintMore
attribute [local go_sem] max2_int min2_int max_two min_two max_three min_three max_four min_four
set_option linter.unusedVariables false
set_option linter.unusedSimpArgs false

open Go.Proofs.Ytaehlbbjbeibfaa
variable {asc : Bool} {W0 : World} {gc : Nat}
set_option maxHeartbeats 1000000 in
set_option maxRecDepth 1000000 in
theorem new91_calls (W : World) (A : Option Addr) (c : Nat) (xs : List (Hdr S26)) (hC : Kd.C kHdr W A xs.length xs) (hbx : Box91 asc W W.heap.size gc) (hW0 : Below W0.heap.size W0 W) (hXR : ∀ x ∈ xs, Rd91 W0 x) (hl : xs.length < 1099511627776) :
  Calls Try.prog 26 #[.func (.func 27) #[] #[.pointer (some ⟨gc, 0, none⟩)], .slice A xs.length c] W fun e w' => e = .returned (.pointer (some ⟨W.heap.size, 0, none⟩)) ∧ ∃ row', HSG91 gc w' W.heap.size W.heap.size row' (pushL (ahG91 asc) mk91 [] 0 xs) xs.length ∧ Below W.heap.size W w' := by
 have hb := blk_new W (.cells #[.slice none 0 0, .func (.func 27) #[] #[.pointer (some ⟨gc, 0, none⟩)], .int .i64 0] 88); have HB := Aside0.mk (below_alloc (Below.refl W.heap.size W) (.cells #[.slice none 0 0, .func (.func 27) #[] #[.pointer (some ⟨gc, 0, none⟩)], .int .i64 0] 88)); have HS : Aside0 (HSG91 gc (W.alloc (.cells #[.slice none 0 0, .func (.func 27) #[] #[.pointer (some ⟨gc, 0, none⟩)], .int .i64 0] 88)) W.heap.size W.heap.size none [] 0) := ⟨_, rfl, hb, Kd.R_nil _ _ _ _ _, Nat.le_refl _⟩; have HP := Aside0.mk (push91_calls (asc := asc) (W0 := W0) (gc := gc) _ W.heap.size W.heap.size none [] 0 A c xs HS.out ((EnvL.mk hbx hW0 hW0.size).step HB.out) (fun x hx => by simp at hx) hXR (C_keepB (fun h => h) (Kd.C_below hC HB.out) (C_ltB hC (by decide) (Nat.le_refl _) (fun k hk => by cases hk))) (by omega) (by rw [Int.zero_add]; omega) (by rw [List.length_nil, Nat.zero_add]; exact hl) Hp.nil); clear hb hC HS; go_enter Try.func26, Try.ntmps26
 go_wp2_with (go_at_call 29; (with_reducible refine HP.out.mono ?_); rintro e w1 ⟨rfl, row1, hS1, hT1⟩; have HS1 := Aside0.mk hS1; have HT1 := Aside0.mk hT1; clear hS1 hT1)
 go_ret
 exact ⟨rfl, row1, by have := HS1.out; rwa [Int.zero_add] at this, HB.out.trans HT1.out.below⟩
end Go.Proofs.Ytaehlbbjbeibfaa.X
end

section
namespace Go.Proofs.Ytaehlbbjbeibfaa.X
open Go.RowKit Go.Proofs.YtaehlbbjbeibfaaW.PrintWords Go.Proofs.YtaehlbbjbeibfaaW.PrintLast Go.Proofs.YtaehlbbjbeibfaaW.PrintMore
attribute [local go_sem] max2_int min2_int max_two min_two max_three min_three max_four min_four
set_option linter.unusedVariables false
set_option linter.unusedSimpArgs false

open Go.Proofs.Ytaehlbbjbeibfaa
variable {asc : Bool} {W0 : World} {gc : Nat}
set_option maxHeartbeats 1000000 in
set_option maxRecDepth 1000000 in
theorem peek91_some (W : World) (g base : Nat) (row : Option Nat) (L : List S91) (came : Int) (hS : HSG91 gc W g base row L came) (hl : 0 < L.length) :
  Calls Try.prog 43 #[.pointer (some ⟨g, 0, none⟩)] W fun e w' => e = .returned (.tuple #[.slice (hgt L 0).f0.A (hgt L 0).f0.n (hgt L 0).f0.c, .bool true]) ∧ w' = W := by
 obtain ⟨v, hv, hb, hR, hg⟩ := hS; obtain ⟨gr, cap, rfl, hgr, hgl, _⟩ := Kd.R_form hR (by omega); obtain ⟨x0, x1, xf0, xf1⟩ := cells91 hR 0 hl; have hl0 := hl; have c0 : W.cell? ⟨g, 0, none⟩ = some (.slice (some ⟨gr, 0, none⟩) L.length cap) := (blk_cell hb 0).trans rfl; rw [Nat.zero_mul] at x0 x1; have q1 : (0 : Int) < (L.length : Int) := Int.natCast_pos.2 hl; have q2 : ((L.length : Int) == 0) = false := beq_eq_false_iff_ne.mpr (by omega); generalize hgt L 0 = x at x0 x1 ⊢; clear hv hb hR hg hgr hgl x1 xf0 xf1; go_enter Try.func43, Try.ntmps43
 go_wp2
 refine bodyPost_ret (results_list (rs := [.tmp 2, .tmp 3]) rfl (by simp) (.tmp (.tmp .nil))) rfl ?_; exact ⟨rfl, rfl⟩
set_option maxHeartbeats 1000000 in
set_option maxRecDepth 1000000 in
theorem peek91_none (W : World) (g base : Nat) (row : Option Nat) (L : List S91) (came : Int) (hS : HSG91 gc W g base row L came) (hl : L.length = 0) :
  Calls Try.prog 43 #[.pointer (some ⟨g, 0, none⟩)] W fun e w' => e = .returned (.tuple #[.slice none 0 0, .bool false]) ∧ w' = W := by
 obtain ⟨v, hv, hb, hR, hg⟩ := hS; obtain ⟨A, cap, rfl⟩ := Kd.R_slice hR; have c0 : W.cell? ⟨g, 0, none⟩ = some (.slice A 0 cap) := by have := (blk_cell hb 0).trans (rfl : _ = some (Value.slice A L.length cap)); rwa [hl] at this
 clear hv hb hR hg; go_enter Try.func43, Try.ntmps43
 go_wp2
 refine bodyPost_ret (results_list (rs := [.tmp 2, .tmp 3]) rfl (by simp) (.tmp (.tmp .nil))) rfl ?_; exact ⟨rfl, rfl⟩
set_option maxHeartbeats 1000000 in
set_option maxRecDepth 1000000 in
theorem pop91_none (W : World) (g base : Nat) (row : Option Nat) (L : List S91) (came : Int) (hS : HSG91 gc W g base row L came) (hl : L.length = 0) :
  Calls Try.prog 30 #[.pointer (some ⟨g, 0, none⟩)] W fun e w' => e = .returned (.tuple #[.slice none 0 0, .bool false]) ∧ w' = W := by
 go_enter Try.func30, Try.ntmps30
 go_wp2_with (go_at_call 43; (with_reducible refine (peek91_none _ g base row L came hS hl).mono ?_); rintro e w1 ⟨rfl, rfl⟩)
 refine bodyPost_ret (results_list (rs := [.tmp 2, .tmp 3]) rfl (by simp) (.tmp (.tmp .nil))) rfl ?_; exact ⟨rfl, rfl⟩
set_option maxHeartbeats 1000000 in
set_option maxRecDepth 1000000 in
theorem pop91_some (W : World) (g base : Nat) (row : Option Nat) (L : List S91) (came : Int) (hS : HSG91 gc W g base row L came) (hE : Env91 asc W0 W base gc) (hAR : AllRd91 W0 L) (hl : 0 < L.length) (hm : L.length < 1099511627776) :
  Calls Try.prog 30 #[.pointer (some ⟨g, 0, none⟩)] W fun e w' => e = .returned (.tuple #[.slice (hgt L 0).f0.A (hgt L 0).f0.n (hgt L 0).f0.c, .bool true]) ∧ HSG91 gc w' g base row (popF (ahG91 asc) L) came ∧ HpTo W w' g base row row := by
 have HS := Aside0.mk hS; obtain ⟨v, hv, hb, hR, hg⟩ := hS; obtain ⟨gr, cap, rfl, hgr, hgl, _⟩ := Kd.R_form hR (by omega); obtain ⟨e, he⟩ : ∃ e, L.length - 1 = e := ⟨_, rfl⟩; have hel : e < L.length := by omega
 obtain ⟨x0, x1, xf0, xf1⟩ := cells91 hR 0 hl; obtain ⟨y0, y1, yf0, yf1⟩ := cells91 hR e hel; rw [Nat.zero_mul] at x0 x1 xf0 xf1; rw [Nat.zero_add] at x1 xf1; have c0 : W.cell? ⟨g, 0, none⟩ = some (.slice (some ⟨gr, 0, none⟩) L.length cap) := (blk_cell hb 0).trans rfl; have hw : IntKind.i64.wrap ((L.length : Int) - 1) = (e : Int) := by rw [IntKind.wrap_i64]; omega
 have HR := Aside0.mk hR; have HB := Aside0.mk hb; have HG := Aside0.mk hg; have HV := Aside0.mk hv; have HP := Aside0.mk (put91 hR 0 hl (hgt L e)); have HQ : Aside0 (popF (ahG91 asc) L = downF (ahG91 asc) ((L.set 0 (hgt L e)).take e) 0) := ⟨by unfold popF; rw [he]⟩; obtain ⟨y, hy⟩ : ∃ y, hgt L e = y := ⟨_, rfl⟩; have hy2 := hy; rw [hy] at y0 y1 HP HQ; have q1 : (0 : Int) < (L.length : Int) := Int.natCast_pos.2 hl; have q2 : (e : Int) < (L.length : Int) := by omega
 have q3 : 0 ≤ (e : Int) := by omega
 clear hy hR hb hg hv hgr hgl; go_enter Try.func30, Try.ntmps30
 go_upto_region 5 with (go_at_call 43; (with_reducible refine (peek91_some _ g base row L came HS.out hl).mono ?_); rintro e w1 ⟨rfl, rfl⟩)
 go_region
 have g1 : (((w1.setCell ⟨gr, 0, none⟩ (.slice y.f0.A y.f0.n y.f0.c)).setCell ⟨gr, 1, none⟩ (.int .i64 y.f1)).drew).heap[g]? = some (.cells #[.slice (some ⟨gr, 0, none⟩) L.length cap, .func (.func 27) #[] #[.pointer (some ⟨gc, 0, none⟩)], .int .i64 came] 88 (0, 0)) :=
  blk_drew (blk_grown HB.out HP.out.2 (fun e => HR.out.1 gr rfl (Option.some.inj e).symm))
 have g2 : k91.R 91 (((w1.setCell ⟨gr, 0, none⟩ (.slice y.f0.A y.f0.n y.f0.c)).setCell ⟨gr, 1, none⟩ (.int .i64 y.f1)).drew) base (fun k => k ≠ g) (.slice (some ⟨gr, 0, none⟩) L.length cap) (L.set 0 y) := Kd.R_drew HP.out.1
 have g3 : HpTo w1 (((w1.setCell ⟨gr, 0, none⟩ (.slice y.f0.A y.f0.n y.f0.c)).setCell ⟨gr, 1, none⟩ (.int .i64 y.f1)).drew) g base row row :=
  ((HpTo.refl w1 g base row).then_grown HS.out.size (fun k hk => (HS.out.row_ k hk).1) (HV.out ▸ HP.out.2) (.inl rfl)).then_below (below_drew (Below.refl _ _)) (Nat.le_trans HS.out.size HP.out.2.size)
 have hcap : e ≤ cap := by have := (Kd.R_reads' g2).2.1; omega
 have hcap2 : (e : Int) ≤ (cap : Int) := by omega
 generalize (((w1.setCell ⟨gr, 0, none⟩ (.slice y.f0.A y.f0.n y.f0.c)).setCell ⟨gr, 1, none⟩ (.int .i64 y.f1)).drew) = w2 at g1 g2 g3 ⊢; have g4 : (w2.setCell ⟨g, 0, none⟩ (.slice (some ⟨gr, 0, none⟩) e cap)).heap[g]? = some (.cells #[.slice (some ⟨gr, 0, none⟩) e cap, .func (.func 27) #[] #[.pointer (some ⟨gc, 0, none⟩)], .int .i64 came] 88 (0, 0)) := blk_put g1 0 _ rfl; have G5 := Aside0.mk (Kd.R_far (p := ⟨g, 0, none⟩) (Kd.R_take g2 (m := e) (by rw [List.length_set]; omega)) (fun _ h => h) (.slice (some ⟨gr, 0, none⟩) e cap)); have G6 := Aside0.mk (g3.then_set HG.out 0 (.slice (some ⟨gr, 0, none⟩) e cap)); have c9 : w2.cell? ⟨g, 0, none⟩ = some (.slice (some ⟨gr, 0, none⟩) L.length cap) := (blk_cell g1 0).trans rfl; have fz : w2.frozen? ⟨g, 0, none⟩ = false := blk_frozen g1 0; have G4 := Aside0.mk g4; have HSn : Aside0 (HSG91 gc (w2.setCell ⟨g, 0, none⟩ (.slice (some ⟨gr, 0, none⟩) e cap)) g base row ((L.set 0 y).take e) came) := ⟨.slice (some ⟨gr, 0, none⟩) e cap, HV.out, G4.out, G5.out, HG.out⟩; have HL := Aside0.mk (show ((L.set 0 y).take e).length < 1099511627776 by rw [List.length_take, List.length_set]; omega); have HD := Aside0.mk (down91_calls _ g base row _ came 0 HSn.out (hE.step G6.out.below) (hAR.cut hel hy2) (by omega) HL.out); rw [show ((0 : Nat) : Int) = 0 from rfl] at HD; clear g1 g2 g3 g4 G4 G5 HP HR HB HS c0 x0 x1 y0 y1 xf0 xf1 yf0 yf1; go_wp2_with (go_at_call 44; (with_reducible refine HD.out.mono ?_); rintro e w3 ⟨rfl, hS3, hT3⟩; have HS3 := Aside0.mk hS3; have HT3 := Aside0.mk hT3; clear hS3 hT3)
 refine bodyPost_ret (results_list (rs := [.tmp 2, .tmp 3]) rfl (by simp) (.tmp (.tmp .nil))) rfl ?_; exact ⟨rfl, by rw [HQ.out]; exact HS3.out, G6.out.trans HT3.out⟩
end Go.Proofs.Ytaehlbbjbeibfaa.X
end
