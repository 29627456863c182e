/-
  Sets of labels in plain lists: how names stand, where one is put, what a set tells of a name; label.Of, for the seat Ytbkhgldinmabiaa.
-/
import Derived.Test.YtbkhgldinmabiaaX4
import Derived.Test.YtbkhgldinmabiaaX5
import Derived.Test.YtbkhgldinmabiaaX6
import Derived.Test.YtbkhgldinmabiaaN
set_option linter.unusedVariables false
set_option linter.unusedSimpArgs false
namespace Go.Proofs.Ytbkhgldinmabiaa.B
open Go.RowKit Go.Proofs.Ytbkhgldinmabiaa.X Go.Proofs.YtbkhgldinmabiaaW.PrintWords Go.Proofs.YtbkhgldinmabiaaW.PrintLast

/-! ### how names stand -/
/-- one name ahead of another one -/
def nl (a b : ByteArray) : Prop := Op.bytesLess (by_ a) (by_ b) = true
instance (a b : ByteArray) : Decidable (nl a b) := inferInstanceAs (Decidable (_ = true))
theorem cmpB : ∀ (a b : List UInt8), (Op.bytesLess a b = true ∧ Lib.compareBytes a b = -1) ∨ (a = b ∧ Lib.compareBytes a b = 0) ∨ (Op.bytesLess b a = true ∧ Lib.compareBytes a b = 1)
  | [], [] => .inr (.inl ⟨rfl, rfl⟩)
  | [], _ :: _ => .inl ⟨rfl, rfl⟩
  | _ :: _, [] => .inr (.inr ⟨rfl, rfl⟩)
  | x :: a, y :: b => by
    simp only [Op.bytesLess, Lib.compareBytes]
    by_cases h1 : x < y
    · exact .inl ⟨by simp [h1], by simp [h1]⟩
    · by_cases h2 : y < x
      · exact .inr (.inr ⟨by simp [h2], by simp [h1, h2]⟩)
      · have e : x = y := by
          rw [UInt8.lt_iff_toNat_lt] at h1 h2
          exact UInt8.toNat_inj.1 (by omega)
        subst e
        rw [if_neg h1, if_neg h1]
        rcases cmpB a b with h | h | h
        · exact .inl ⟨by simp [h.1], h.2⟩
        · exact .inr (.inl ⟨by rw [h.1], h.2⟩)
        · exact .inr (.inr ⟨by simp [h.1], h.2⟩)
theorem less_trans : ∀ {a b c : List UInt8}, Op.bytesLess a b = true → Op.bytesLess b c = true → Op.bytesLess a c = true
  | _, _, [], _, h => by simp [Op.bytesLess] at h
  | _, [], _ :: _, h, _ => by simp [Op.bytesLess] at h
  | [], _ :: _, _ :: _, _, _ => rfl
  | x :: a, y :: b, z :: c, h1, h2 => by
    simp only [Op.bytesLess, Bool.or_eq_true, decide_eq_true_eq, Bool.and_eq_true, beq_iff_eq, UInt8.lt_iff_toNat_lt] at h1 h2 ⊢
    rcases h1 with h1 | ⟨e1, h1⟩
    · rcases h2 with h2 | ⟨e2, h2⟩
      · exact .inl (by omega)
      · exact .inl (by rw [← e2]; exact h1)
    · rcases h2 with h2 | ⟨e2, h2⟩
      · exact .inl (by rw [e1]; exact h2)
      · exact .inr ⟨e1.trans e2, less_trans h1 h2⟩
theorem nl_irrefl (a : ByteArray) : ¬ nl a a := fun h => x_less_ne h rfl
theorem nl_asym {a b : ByteArray} (h : nl a b) : ¬ nl b a := fun h2 => by
  have := x_less_asym h
  rw [h2] at this
  cases this
theorem nl_trans {a b c : ByteArray} (h : nl a b) (h2 : nl b c) : nl a c := less_trans h h2
theorem nl_tri {a b : ByteArray} (h : ¬ nl a b) (h2 : ¬ nl b a) : a = b := by
  apply by_ext
  exact x_less_tri (Bool.not_eq_true _ ▸ h) (Bool.not_eq_true _ ▸ h2)
theorem names_f (a b c d : ByteArray) : ∃ r, label_names.f a b c d = some r ∧ (r < 0 ↔ nl a c) ∧ (r = 0 ↔ a = c) := by
  refine ⟨Lib.compareBytes (by_ a) (by_ c), ?_, ?_, ?_⟩
  · unfold label_names.f strings_Compare.f
    rfl
  · rcases cmpB (by_ a) (by_ c) with h | h | h
    · rw [h.2]
      exact ⟨fun _ => h.1, fun _ => by omega⟩
    · rw [h.2]
      exact ⟨fun h => by omega, fun h2 => absurd h.1 (x_less_ne h2)⟩
    · rw [h.2]
      exact ⟨fun h => by omega, fun h2 => absurd h2 (nl_asym (a := c) (b := a) h.1)⟩
  · rcases cmpB (by_ a) (by_ c) with h | h | h
    · rw [h.2]
      exact ⟨fun h => by omega, fun e => by subst e; exact absurd h.1 (nl_irrefl a)⟩
    · rw [h.2]
      exact ⟨fun _ => by_ext h.1, fun _ => rfl⟩
    · rw [h.2]
      exact ⟨fun h => by omega, fun e => by subst e; exact absurd h.1 (nl_irrefl a)⟩
/-! ### sets: each name once, rising -/
abbrev Lab := S29
def Rise (l : List Lab) : Prop := l.Pairwise fun a b => nl a.f0 b.f0
/-- how many stand ahead of a name -/
def posP (l : List Lab) (n : ByteArray) : Nat := (l.takeWhile fun x => decide (nl x.f0 n)).length
theorem posP_le (l : List Lab) (n : ByteArray) : posP l n ≤ l.length := (List.takeWhile_sublist _).length_le
theorem posP_lt : ∀ (l : List Lab) (n : ByteArray) (i : Nat) (h : i < l.length), i < posP l n → nl l[i].f0 n
  | x :: l, n, i, h, hi => by
    unfold posP at hi
    rw [List.takeWhile_cons] at hi
    split at hi
    · rename_i hx
      cases i with
      | zero => simpa using hx
      | succ i => exact posP_lt l n i (by simpa using h) (by simpa [posP] using hi)
    · simp at hi
theorem posP_ge : ∀ (l : List Lab) (hr : Rise l) (n : ByteArray) (i : Nat) (h : i < l.length), posP l n ≤ i → ¬ nl l[i].f0 n
  | x :: l, hr, n, i, h, hi => by
    unfold posP at hi
    rw [List.takeWhile_cons] at hi
    unfold Rise at hr
    rw [List.pairwise_cons] at hr
    split at hi
    · cases i with
      | zero => simp at hi
      | succ i => exact posP_ge l hr.2 n i (by simpa using h) (by simpa [posP] using hi)
    · rename_i hx
      have hx' : ¬ nl x.f0 n := by simpa using hx
      cases i with
      | zero => exact hx'
      | succ i =>
        have hi' : i < l.length := by simpa using h
        have h1 := hr.1 l[i] (List.getElem_mem hi')
        exact fun h2 => hx' (nl_trans h1 h2)
theorem posP_is (l : List Lab) (hr : Rise l) (n : ByteArray) (r : Nat) (hr1 : r ≤ l.length) (h1 : ∀ i (h : i < l.length), i < r → nl l[i].f0 n) (h2 : ∀ i (h : i < l.length), r ≤ i → ¬ nl l[i].f0 n) : r = posP l n := by
  have hp := posP_le l n
  rcases Nat.lt_trichotomy r (posP l n) with h | h | h
  · exact absurd (posP_lt l n r (by omega) h) (h2 r (by omega) (Nat.le_refl _))
  · exact h
  · exact absurd (h1 (posP l n) (by omega) h) (posP_ge l hr n _ (by omega) (Nat.le_refl _))
theorem rdLab (l : List Lab) (i : Nat) (h : i < l.length) : rd_T29 l (i : Int) = l[i] := by simp [rd_T29, h]
theorem mid_w (i j : Nat) (h : i + j < 4611686018427387904) : wrap64 ((IntKind.u64.wrap (wrap64 ((i : Int) + (j : Int)))) / 2) = (((i + j) / 2 : Nat) : Int) := by
  have e1 : wrap64 ((i : Int) + (j : Int)) = ((i + j : Nat) : Int) := by rw [wrap_in] <;> omega
  have e2 : IntKind.u64.wrap ((i + j : Nat) : Int) = ((i + j : Nat) : Int) := by
    unfold IntKind.wrap
    simp [IntKind.bits, IntKind.signed]
    omega
  rw [e1, e2, wrap_in] <;> omega
theorem search_loop (l : List Lab) (hl : l.length < 1000000000) (hr : Rise l) (n v : ByteArray) : ∀ (d i j : Nat), j - i ≤ d → i ≤ j → j ≤ l.length → (∀ m (h : m < l.length), m < i → nl l[m].f0 n) → (∀ m (h : m < l.length), j ≤ m → ¬ nl l[m].f0 n) →
    Ev (fun k => label_Pair_label_names.l0 k l (l.length : Int) (i : Int) (j : Int) n v) ((posP l n : Int), if h : posP l n < l.length then decide (l[posP l n].f0 = n) else false) := by
  intro d
  induction d with
  | zero =>
    intro i j hd hij hj h1 h2
    have e : i = j := by omega
    subst e
    have hp := posP_is l hr n i hj h1 h2
    refine Ev.step (fun _ => rfl) ?_
    simp only [label_Pair_label_names.l0]
    refine Ev.neg (by omega) ?_
    rw [← hp]
    by_cases hlt : i < l.length
    · obtain ⟨r, hf, _, h0⟩ := names_f l[i].f0 l[i].f1 n v
      rw [rdLab l i hlt, hf, dif_pos hlt]
      refine Ev.pos (by omega) (Ev.pos (by omega) (Ev.pos (by omega) (Ev.one (Ev.ret ?_))))
      congr 1
      rw [Bool.eq_iff_iff, beq_iff_eq, decide_eq_true_eq]
      exact h0
    · rw [dif_neg hlt]
      exact Ev.neg (by omega) (Ev.now _)
  | succ d ih =>
    intro i j hd hij hj h1 h2
    by_cases hlt : i < j
    · obtain ⟨m, hm⟩ : ∃ m, (i + j) / 2 = m := ⟨_, rfl⟩
      have hmi : i ≤ m ∧ m < j := by omega
      have hml : m < l.length := by omega
      obtain ⟨r, hf, hneg, _⟩ := names_f l[m].f0 l[m].f1 n v
      refine Ev.step (fun _ => rfl) ?_
      simp only [label_Pair_label_names.l0]
      rw [mid_w i j (by omega), hm, rdLab l m hml, hf, w1 m (by omega)]
      refine Ev.pos (by omega) (Ev.pos (by omega) (Ev.pos (by omega) (Ev.one ?_)))
      by_cases hc : r < 0
      · refine Ev.pos hc (ih (m + 1) j (by omega) (by omega) hj (fun q hq hqm => ?_) h2)
        have hx := hneg.1 hc
        rcases Nat.lt_or_ge q m with h | h
        · exact nl_trans ((List.pairwise_iff_getElem.1 hr) q m hq hml h) hx
        · have : q = m := by omega
          subst this
          exact hx
      · refine Ev.neg hc (ih i m (by omega) (by omega) (by omega) h1 (fun q hq hqm => ?_))
        have hx : ¬ nl l[m].f0 n := fun h => hc (hneg.2 h)
        rcases Nat.lt_or_ge m q with h | h
        · exact fun h3 => hx (nl_trans ((List.pairwise_iff_getElem.1 hr) m q hml hq h) h3)
        · have : q = m := by omega
          subst this
          exact hx
    · have e : i = j := by omega
      subst e
      exact ih i i (by omega) (Nat.le_refl _) hj h1 h2
end Go.Proofs.Ytbkhgldinmabiaa.B
