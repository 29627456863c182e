/-
  A byte as it is put, and what is read where a byte is put (no program in sight), for the seat Ytifcnblgpnfehaa.
-/
import Derived.Test.YtifcnblgpnfehaaQ
set_option linter.unusedVariables false
set_option linter.unusedSimpArgs false
namespace Go.Proofs.Ytifcnblgpnfehaa.B
open Go.RowKit Go.Proofs.Ytifcnblgpnfehaa.X Go.Proofs.YtifcnblgpnfehaaW.PrintWords Go.Proofs.YtifcnblgpnfehaaW.PrintLast

/-- a byte as it is put -/
def oneP (b : UInt8) : List UInt8 :=
  if b.toNat = 34 ∨ b.toNat = 92 then [92, b] else if b.toNat = 10 then [92, 110] else if b.toNat = 9 then [92, 116]
  else if b.toNat < 32 ∨ 126 < b.toNat then [92, 120, hexd.getD (b.toNat / 16) 0, hexd.getD (b.toNat % 16) 0] else [b]
theorem oneP_len (b : UInt8) : 1 ≤ (oneP b).length ∧ (oneP b).length ≤ 4 := by
  have h : ∀ n : Fin 256, 1 ≤ (oneP (UInt8.ofNat n.val)).length ∧ (oneP (UInt8.ofNat n.val)).length ≤ 4 := by decide +kernel
  have := h ⟨b.toNat, b.toNat_lt⟩
  simpa using this
theorem escR_more {l : List UInt8} {b : UInt8} {n : Nat} (r : List UInt8) (h : escP l = some (b, n)) : escP (l ++ r) = some (b, n) := by
  match l, h with
  | [], h => simp [escP] at h
  | [c], h =>
    simp only [escP] at h
    simp only [List.cons_append, List.nil_append, escP]
    repeat' split at h
    all_goals first
      | (cases h; done)
      | simp_all
  | [c, d], h =>
    simp only [escP] at h
    simp only [List.cons_append, List.nil_append, escP]
    repeat' split at h
    all_goals first
      | (cases h; done)
      | simp_all
  | c :: d :: e :: l, h => exact h
theorem decR_more {l : List UInt8} {b : UInt8} {n : Nat} (r : List UInt8) (h : decP l = some (b, n)) : decP (l ++ r) = some (b, n) := by
  match l, h with
  | [], h => simp [decP] at h
  | c :: l, h =>
    simp only [List.cons_append, decP] at h ⊢
    by_cases c1 : c.toNat = 92
    · rw [if_pos c1] at h ⊢
      obtain ⟨⟨b2, n2⟩, h2, h3⟩ := Option.map_eq_some_iff.1 h
      rw [escR_more r h2]
      exact congrArg some h3
    · rw [if_neg c1] at h ⊢
      exact h
/-- what a byte is put is that byte -/
theorem dec_one (b : UInt8) (r : List UInt8) : decP (oneP b ++ r) = some (b, (oneP b).length) := by
  refine decR_more r ?_
  have h : ∀ n : Fin 256, decP (oneP (UInt8.ofNat n.val)) = some (UInt8.ofNat n.val, (oneP (UInt8.ofNat n.val)).length) := by decide +kernel
  have := h ⟨b.toNat, b.toNat_lt⟩
  simpa using this
theorem head_one (b : UInt8) : (oneP b).head? ≠ some 34 := by
  have h : ∀ n : Fin 256, (oneP (UInt8.ofNat n.val)).head? ≠ some 34 := by decide +kernel
  have := h ⟨b.toNat, b.toNat_lt⟩
  simpa using this
theorem hex_back (h g : UInt8) (h0 : 0 ≤ hexv h) (g0 : 0 ≤ hexv g) : hexd.getD (hexv h).toNat 0 = h ∧ hexd.getD (hexv g).toNat 0 = g := by
  have hh : ∀ n : Fin 256, 0 ≤ hexv (UInt8.ofNat n.val) → hexd.getD (hexv (UInt8.ofNat n.val)).toNat 0 = UInt8.ofNat n.val := by decide +kernel
  have h1 := hh ⟨h.toNat, h.toNat_lt⟩
  have h2 := hh ⟨g.toNat, g.toNat_lt⟩
  simp only [UInt8.ofNat_toNat] at h1 h2
  exact ⟨h1 h0, h2 g0⟩
/-- what a text begins with is one byte as it is put -/
theorem one_dec {l : List UInt8} {b : UInt8} {n : Nat} (h : decP l = some (b, n)) (hq : l.head? ≠ some 34) : l = oneP b ++ l.drop n ∧ n = (oneP b).length := by
  match l, h with
  | [], h => simp [decP] at h
  | c :: l, h =>
    have hq2 : c.toNat ≠ 34 := fun e => hq (by simp; exact UInt8.toNat_inj.1 e)
    simp only [decP] at h
    by_cases c1 : c.toNat = 92
    · rw [if_pos c1] at h
      have hc : c = 92 := UInt8.toNat_inj.1 c1
      obtain ⟨⟨b2, n2⟩, h2, h3⟩ := Option.map_eq_some_iff.1 h
      simp only [Prod.mk.injEq] at h3
      obtain ⟨rfl, rfl⟩ := h3
      match l, h2 with
      | [], h2 => simp [escP] at h2
      | d :: l, h2 =>
        simp only [escP] at h2
        by_cases d1 : d.toNat = 34
        · rw [if_pos d1] at h2
          simp only [Option.some.injEq, Prod.mk.injEq] at h2
          obtain ⟨rfl, rfl⟩ := h2
          have : oneP d = [92, d] := by simp [oneP, d1]
          rw [this, hc]
          exact ⟨rfl, rfl⟩
        rw [if_neg d1] at h2
        by_cases d2 : d.toNat = 92
        · rw [if_pos d2] at h2
          simp only [Option.some.injEq, Prod.mk.injEq] at h2
          obtain ⟨rfl, rfl⟩ := h2
          have : oneP d = [92, d] := by simp [oneP, d2]
          rw [this, hc]
          exact ⟨rfl, rfl⟩
        rw [if_neg d2] at h2
        by_cases d3 : d.toNat = 110
        · rw [if_pos d3] at h2
          simp only [Option.some.injEq, Prod.mk.injEq] at h2
          obtain ⟨rfl, rfl⟩ := h2
          have : oneP 10 = [92, 110] := by decide
          rw [this, hc, show d = 110 from UInt8.toNat_inj.1 d3]
          exact ⟨rfl, rfl⟩
        rw [if_neg d3] at h2
        by_cases d4 : d.toNat = 116
        · rw [if_pos d4] at h2
          simp only [Option.some.injEq, Prod.mk.injEq] at h2
          obtain ⟨rfl, rfl⟩ := h2
          have : oneP 9 = [92, 116] := by decide
          rw [this, hc, show d = 116 from UInt8.toNat_inj.1 d4]
          exact ⟨rfl, rfl⟩
        rw [if_neg d4] at h2
        match l, h2 with
        | [], h2 => simp at h2
        | [_], h2 => simp at h2
        | x :: y :: l, h2 =>
          simp only at h2
          split at h2
          · rename_i hh
            obtain ⟨k1, k2, k3, k4, k5, k6⟩ := hh
            simp only [Option.some.injEq, Prod.mk.injEq] at h2
            obtain ⟨rfl, rfl⟩ := h2
            have hx := hexv_range x
            have hy := hexv_range y
            obtain ⟨ex, ey⟩ := hex_back x y k2 k3
            obtain ⟨m, hm⟩ : ∃ m : Nat, (hexv x * 16 + hexv y).toNat = m := ⟨_, rfl⟩
            have hmb : m < 256 := by omega
            have e0 : (UInt8.ofNat m).toNat = m := by simp; omega
            have : oneP (UInt8.ofNat m) = [92, 120, x, y] := by
              unfold oneP
              rw [e0, if_neg (by omega), if_neg (by omega), if_neg (by omega), if_pos (by omega), show m / 16 = (hexv x).toNat by omega, show m % 16 = (hexv y).toNat by omega, ex, ey]
            rw [hm, this, hc, show d = 120 from UInt8.toNat_inj.1 k1]
            exact ⟨rfl, rfl⟩
          · cases h2
    · rw [if_neg c1] at h
      split at h
      · cases h
      · rename_i hr
        simp only [Option.some.injEq, Prod.mk.injEq] at h
        obtain ⟨rfl, rfl⟩ := h
        have : oneP c = [c] := by
          unfold oneP
          rw [if_neg (by omega), if_neg (by omega), if_neg (by omega), if_neg (by omega)]
        rw [this]
        exact ⟨rfl, rfl⟩
/-! ### small numbers -/
theorem up_one (acc : List UInt8) (b : Nat) (hb : b < 256) : up_ acc ++ [((b : Int)) % 256] = up_ (acc ++ [UInt8.ofNat b]) := by
  have : (UInt8.ofNat b).toNat = b := by simp; omega
  simp [up_]
/-- a length that is small enough (a word of its own, so that no tactic unfolds the number) -/
def SmallN (n : Nat) : Prop := n < 140737488355328
theorem SmallN.of {n : Nat} (h : n < 140737488355328) : SmallN n := h
theorem SmallN.add {i : Nat} (h : SmallN i) (n : Nat) (hn : n ≤ 4) : wrap64 ((i : Int) + (n : Int)) = ((i + n : Nat) : Int) := by
  have h2 : (i : Int) < 140737488355328 := Int.ofNat_lt.2 h
  unfold wrap64
  omega
theorem SmallN.up {i : Nat} (h : SmallN i) {acc : List UInt8} (ha : acc.length ≤ i) : (up_ acc).length < 140737488355328 := by
  rw [up_, List.length_map]
  exact Nat.lt_of_le_of_lt ha h
theorem SmallN.lt {i n : Nat} (hs : SmallN n) (h : i < n) : SmallN i := Nat.lt_trans h hs
theorem SmallN.low {i n : Nat} (hs : SmallN n) (h : i ≤ n) : SmallN i := Nat.lt_of_le_of_lt h hs
theorem SmallN.out {n : Nat} (hs : SmallN n) : n < 140737488355328 := hs
attribute [irreducible] SmallN
end Go.Proofs.Ytifcnblgpnfehaa.B
