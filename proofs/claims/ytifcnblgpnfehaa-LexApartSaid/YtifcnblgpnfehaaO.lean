/-
  What single words are, with something behind them, for the seat Ytifcnblgpnfehaa.
-/
import Derived.Test.YtifcnblgpnfehaaS
set_option linter.unusedVariables false
set_option linter.unusedSimpArgs false
namespace Go.Proofs.Ytifcnblgpnfehaa.B
open Go.RowKit Go.Proofs.Ytifcnblgpnfehaa.X Go.Proofs.YtifcnblgpnfehaaW.PrintWords Go.Proofs.YtifcnblgpnfehaaW.PrintLast

theorem pfx_two (o t : List UInt8) (h : o.length ≤ 2) : pfxP o t = pfxP o (t.take 2) := by
  unfold pfxP
  rw [List.take_take, Nat.min_eq_left h]
theorem op_two (t : List UInt8) : opP t = opP (t.take 2) :=
  find_same _ fun o ho => pfx_two o t (by have : ∀ o ∈ opsP, o.length ≤ 2 := by decide
                                          exact this o ho)
/-- does a sign begin with this byte? -/
def opC (c : UInt8) : Bool := opsP.any fun o => o.head? == some c
theorem op_not {c : UInt8} (t : List UInt8) (h : opC c = false) : opP (c :: t) = none := by
  unfold opP
  rw [List.find?_eq_none]
  intro o ho hp
  have h1 : ¬ (o.head? == some c) = true := fun h2 => by
    have : opC c = true := List.any_eq_true.2 ⟨o, ho, h2⟩
    rw [h] at this
    cases this
  have h2 : ∀ o ∈ opsP, o ≠ [] := by decide
  cases o with
  | nil => exact h2 _ ho rfl
  | cons x o =>
    simp only [pfxP, List.length_cons, List.take_succ_cons, List.cons_beq_cons, Bool.and_eq_true, beq_iff_eq] at hp
    exact h1 (by simp [hp.1])
theorem word_op {t o : List UInt8} (h : opP t = some o) : wordP t = some (4, o, o.length) := by
  unfold wordP
  rw [h]
theorem word_text {t x : List UInt8} {n : Nat} (h0 : opP t = none) (h : getP t = some (x, n)) : wordP t = some (2, x, n) := by
  unfold wordP
  rw [h0, h]
theorem get_not {c : UInt8} (t : List UInt8) (h : c.toNat ≠ 34) : getP (c :: t) = none := by
  rw [getP, if_neg h]
theorem letC_not (c : UInt8) (h : (letC c || c.toNat == 95) = true) : opC c = false ∧ c.toNat ≠ 34 := by
  have hh : ∀ n : Fin 256, (letC (UInt8.ofNat n.val) || (UInt8.ofNat n.val).toNat == 95) = true → opC (UInt8.ofNat n.val) = false ∧ (UInt8.ofNat n.val).toNat ≠ 34 := by decide +kernel
  have := hh ⟨c.toNat, c.toNat_lt⟩
  simp only [UInt8.ofNat_toNat] at this
  exact this h
theorem digC_not (c : UInt8) (h : digC c = true) : opC c = false ∧ c.toNat ≠ 34 ∧ c.toNat ≠ 45 ∧ (letC c || c.toNat == 95) = false := by
  have hh : ∀ n : Fin 256, digC (UInt8.ofNat n.val) = true → opC (UInt8.ofNat n.val) = false ∧ (UInt8.ofNat n.val).toNat ≠ 34 ∧ (UInt8.ofNat n.val).toNat ≠ 45 ∧ (letC (UInt8.ofNat n.val) || (UInt8.ofNat n.val).toNat == 95) = false := by decide +kernel
  have := hh ⟨c.toNat, c.toNat_lt⟩
  simp only [UInt8.ofNat_toNat] at this
  exact this h
theorem takeWhile_stop {p : UInt8 → Bool} : ∀ (w r : List UInt8), (∀ c ∈ w, p c = true) → (∀ c r', r = c :: r' → p c = false) → (w ++ r).takeWhile p = w
  | [], [], _, _ => rfl
  | [], c :: r, _, h => by simp [h c r rfl]
  | x :: w, r, hw, h => by
    rw [List.cons_append, List.takeWhile_cons, if_pos (hw x (by simp)), takeWhile_stop w r (fun c hc => hw c (by simp [hc])) h]
theorem word_name {c : UInt8} {w r : List UInt8} (h0 : (letC c || c.toNat == 95) = true) (hw : ∀ d ∈ c :: w, nameC d = true) (hn : nameP (c :: w) = true) (hr : ∀ d r', r = d :: r' → nameC d = false) :
    wordP (c :: w ++ r) = some (1, c :: w, (c :: w).length) := by
  obtain ⟨h1, h2⟩ := letC_not c h0
  have e : (c :: (w ++ r)).takeWhile nameC = c :: w := takeWhile_stop (c :: w) r hw hr
  rw [List.cons_append]
  unfold wordP
  rw [op_not _ h1, get_not _ h2]
  simp only
  rw [if_pos h0, e, if_pos hn]
theorem word_num {c : UInt8} {w r : List UInt8} (h0 : digC c = true) (hw : ∀ d ∈ c :: w, valC d = true) (hr : ∀ d r', r = d :: r' → valC d = false) :
    wordP (c :: w ++ r) = some (3, c :: w, (c :: w).length) := by
  obtain ⟨h1, h2, h3, h4⟩ := digC_not c h0
  have e : (c :: (w ++ r)).takeWhile valC = c :: w := takeWhile_stop (c :: w) r hw hr
  rw [List.cons_append]
  unfold wordP
  rw [op_not _ h1, get_not _ h2]
  simp only
  rw [if_neg (by simp [h4]), if_neg h3, if_pos h0, e]
theorem word_nosp {t : List UInt8} {q : Int × List UInt8 × Nat} {c : UInt8} {t' : List UInt8} (h : wordP t = some q) (ht : t = c :: t') : spC c = false := by
  cases hc : spC c with
  | false => rfl
  | true =>
    exfalso
    subst ht
    have h1 : opC c = false := sp_not (fun c => opC c) (by decide +kernel) c hc
    have h2 := (sp_ne c hc).1
    have h3 : letC c = false := sp_not (fun c => letC c) (by decide +kernel) c hc
    have h4 : digC c = false := dig_sp c hc
    have h5 : (c.toNat == 45) = false := sp_not (fun c => c.toNat == 45) (by decide +kernel) c hc
    have h6 : (c.toNat == 95) = false := sp_not (fun c => c.toNat == 95) (by decide +kernel) c hc
    unfold wordP at h
    rw [op_not _ h1, get_not _ h2] at h
    have h7 : ¬ c.toNat = 45 := by simpa using h5
    simp [h3, h4, h6, h7] at h
/-- one word more -/
theorem allP_word {w r x : List UInt8} {k : Int} (d a : Nat) (l : List S33) (h : wordP (w ++ r) = some (k, x, w.length)) :
    allP (d + 1) (w ++ r) a l = allP d r (a + w.length) (l ++ [⟨k, ⟨x.toArray⟩, (a : Int)⟩]) := by
  have hl := wordP_len h
  match w, h, hl with
  | [], h, hl => simp at hl
  | c :: w, h, hl =>
    have hs := word_nosp h (List.cons_append ..)
    rw [List.cons_append] at h ⊢
    rw [allP, if_neg (by simp [hs]), h]
    simp only
    rw [← List.cons_append, List.drop_left]
end Go.Proofs.Ytifcnblgpnfehaa.B
