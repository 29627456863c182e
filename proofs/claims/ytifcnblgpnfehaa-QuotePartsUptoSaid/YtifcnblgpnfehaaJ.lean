/-
  What the examples of the laws of package quote tell, and which one of some a text is, for the seat Ytifcnblgpnfehaa.
-/
import Derived.Test.YtifcnblgpnfehaaX5
import Derived.Test.YtifcnblgpnfehaaB
set_option linter.unusedVariables false
set_option linter.unusedSimpArgs false
namespace Go.Proofs.Ytifcnblgpnfehaa.B
open Go.RowKit Go.Proofs.Ytifcnblgpnfehaa.X Go.Proofs.YtifcnblgpnfehaaW.PrintWords Go.Proofs.YtifcnblgpnfehaaW.PrintLast

set_option maxRecDepth 100000 in
theorem quoteExamples_ev : Ev (fun k => archivistlaw01_examples.f k) true :=
  Ev.of (k := 60) (fun k => archivistlaw01_examples.mono k) (by kernel_rfl)

/-! ### which one of some -/
def amI (s : ByteArray) : List ByteArray → Nat → Int
  | [], _ => -1
  | x :: l, i => if s.toList = x.toList then (i : Int) else amI s l (i + 1)
theorem rdS (l : List ByteArray) (i : Nat) (h : i < l.length) : rdOf ByteArray.empty l (i : Int) = l[i] := by simp [rdOf, List.getD_eq_getElem?_getD, h]
theorem w1 (i : Nat) (h : i < 9223372036854775807) : wrap64 ((i : Int) + 1) = ((i + 1 : Nat) : Int) := by rw [wrap_in] <;> omega
theorem among_loop (l : List ByteArray) (s : ByteArray) (hl : l.length ≤ 9223372036854775807) : ∀ (d i : Nat), l.length - i = d → i ≤ l.length →
    Ev (fun k => slices_Index_string_string.l0 k l s (l.length : Int) (i : Int)) (amI s (l.drop i) i)
  | 0, i, hd, hi => by
    refine Ev.step (fun _ => rfl) ?_
    simp only [slices_Index_string_string.l0]
    rw [List.drop_of_length_le (by omega)]
    exact Ev.neg (by omega) (Ev.now _)
  | d + 1, i, hd, hi => by
    have hlt : i < l.length := by omega
    have ih := among_loop l s hl d (i + 1) (by omega) (by omega)
    refine Ev.step (fun _ => rfl) ?_
    simp only [slices_Index_string_string.l0]
    rw [w1 i (by omega), rdS l i hlt, List.drop_eq_getElem_cons hlt]
    refine Ev.pos (by omega) (Ev.pos (by omega) (Ev.pos (by omega) ?_))
    simp only [amI]
    by_cases h : s.toList = l[i].toList
    · rw [if_pos h]
      exact Ev.pos h (Ev.now _)
    · rw [if_neg h]
      exact Ev.neg h ih
theorem among_ev (l : List ByteArray) (s : ByteArray) (hl : l.length ≤ 9223372036854775807) : Ev (fun k => quote_Among.f k s l) (amI s l 0) := by
  unfold quote_Among.f slices_Index_string_string.f
  have h := among_loop l s hl l.length 0 rfl (Nat.zero_le _)
  rw [List.drop_zero] at h
  exact Ev.bind h (Ev.now _)
theorem amI_spec (s : ByteArray) : ∀ (l : List ByteArray) (n : Nat), (amI s l n = -1 ∧ ∀ i (h : i < l.length), s.toList ≠ l[i].toList) ∨
    ∃ i, ∃ h : i < l.length, amI s l n = ((n + i : Nat) : Int) ∧ s.toList = l[i].toList ∧ ∀ j (h2 : j < i), s.toList ≠ (l[j]'(Nat.lt_trans h2 h)).toList
  | [], n => .inl ⟨rfl, fun i h => absurd h (Nat.not_lt_zero i)⟩
  | x :: l, n => by
    simp only [amI]
    by_cases hx : s.toList = x.toList
    · rw [if_pos hx]
      exact .inr ⟨0, by simp, by simp, by simpa using hx, fun j h => absurd h (Nat.not_lt_zero j)⟩
    · rw [if_neg hx]
      rcases amI_spec s l (n + 1) with ⟨h1, h2⟩ | ⟨i, h, h1, h2, h3⟩
      · refine .inl ⟨h1, fun i hi => ?_⟩
        cases i with
        | zero => simpa using hx
        | succ i => simpa using h2 i (by simpa using hi)
      · refine .inr ⟨i + 1, by simpa using h, by rw [h1]; omega, by simpa using h2, fun j hj => ?_⟩
        cases j with
        | zero => simpa using hx
        | succ j => simpa using h3 j (by omega)
end Go.Proofs.Ytifcnblgpnfehaa.B
