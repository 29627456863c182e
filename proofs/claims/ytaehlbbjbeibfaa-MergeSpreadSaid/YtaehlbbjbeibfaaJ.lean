/-
 The plain texts of the seat Ytaehlbbjbeibfaa in one.
-/
import Derived.Test.YtaehlbbjbeibfaaX0
import Derived.Test.YtaehlbbjbeibfaaX9
import Derived.Test.YtaehlbbjbeibfaaX1
import Derived.Test.YtaehlbbjbeibfaaX11
import Derived.Test.YtaehlbbjbeibfaaX12
import Derived.Test.YtaehlbbjbeibfaaX8
import Derived.Test.YtaehlbbjbeibfaaX13
import Derived.Test.YtaehlbbjbeibfaaX2
section
set_option linter.unusedVariables false
set_option linter.unusedSimpArgs false
namespace Go.Proofs.Ytaehlbbjbeibfaa.B
open Go.RowKit Go.Proofs.Ytaehlbbjbeibfaa.X Go.Proofs.YtaehlbbjbeibfaaW.PrintWords Go.Proofs.YtaehlbbjbeibfaaW.PrintLast

/-! ### rounds -/
theorem Ev.pos {α : Type} {c : Prop} [Decidable c] {A B : Nat → Option α} {r : α} (h : c) (k : Ev A r) : Ev (fun n => if c then A n else B n) r := Ev.congr (fun n => if_pos h) k
theorem Ev.neg {α : Type} {c : Prop} [Decidable c] {A B : Nat → Option α} {r : α} (h : ¬ c) (k : Ev B r) : Ev (fun n => if c then A n else B n) r := Ev.congr (fun n => if_neg h) k
theorem Ev.one {α β : Type} {x : α} {f : Nat → α → Option β} {r : β} (k : Ev (fun n => f n x) r) : Ev (fun n => (some x).bind (f n)) r := k
theorem Ev.ret {α : Type} {x r : α} (h : x = r) : Ev (fun _ => some x) r := h ▸ Ev.now x
/-! ### texts as lists of bytes -/
/-- a text's bytes -/
def by_ (s : ByteArray) : List UInt8 := s.data.toList
theorem toList_by (s : ByteArray) : s.toList = by_ s := x_toList s
theorem by_length (s : ByteArray) : (by_ s).length = s.size := data_length s
theorem by_ext {s t : ByteArray} (h : by_ s = by_ t) : s = t := by
 cases s
 cases t
 simp only [by_] at h
 exact congrArg ByteArray.mk (Array.toList_inj.mp h)
theorem bt_by (s : ByteArray) (i : Nat) (h : i < (by_ s).length) : bt s i = (((by_ s)[i]).toNat : Int) := by
 have h2 : i < s.size := by rw [by_length] at h; exact h
 unfold bt
 rw [dif_pos (by simpa using h2)]
 rfl
theorem wrap_in {x : Int} (h0 : -9223372036854775808 ≤ x) (h1 : x ≤ 9223372036854775807) : wrap64 x = x := by unfold wrap64; omega
theorem w1 (i : Nat) (h : i < 9223372036854775807) : wrap64 ((i : Int) + 1) = ((i + 1 : Nat) : Int) := by rw [wrap_in] <;> omega
end Go.Proofs.Ytaehlbbjbeibfaa.B
end

section
set_option linter.unusedVariables false
set_option linter.unusedSimpArgs false
namespace Go.Proofs.Ytaehlbbjbeibfaa.B
open Go.RowKit Go.Proofs.Ytaehlbbjbeibfaa.X Go.Proofs.YtaehlbbjbeibfaaW.PrintWords Go.Proofs.YtaehlbbjbeibfaaW.PrintLast

/-! ### what stands behind an escape -/
theorem bt_at_ (s : ByteArray) (i : Nat) (c : UInt8) (h : (by_ s)[i]? = some c) : bt s i = (c.toNat : Int) := by
 obtain ⟨hl, e⟩ := List.getElem?_eq_some_iff.1 h
 rw [bt_by s i hl, e]
/-! ### a text in quotes -/
theorem w_succ (i : Nat) (h : i < 140737488355328) : wrap64 ((i : Int) + 1) = ((i + 1 : Nat) : Int) := by rw [wrap_in (by omega) (by omega)]; omega
end Go.Proofs.Ytaehlbbjbeibfaa.B
end

section
set_option linter.unusedVariables false
set_option linter.unusedSimpArgs false
namespace Go.Proofs.Ytaehlbbjbeibfaa.B
open Go.RowKit Go.Proofs.Ytaehlbbjbeibfaa.X Go.Proofs.YtaehlbbjbeibfaaW.PrintWords Go.Proofs.YtaehlbbjbeibfaaW.PrintLast

/-! ### names -/
def nameC (c : UInt8) : Bool := c.toNat == 95 || (48 ≤ c.toNat && c.toNat ≤ 57) || (65 ≤ c.toNat && c.toNat ≤ 90) || (97 ≤ c.toNat && c.toNat ≤ 122)
def nameP : List UInt8 → Bool
 | [] => false
 | c :: l => decide (l.length < 32) && !(48 ≤ c.toNat && c.toNat ≤ 57) && (c :: l).all nameC
theorem nameC_no (c : UInt8) : nameC c = false ↔ c.toNat ≠ 95 ∧ (c.toNat < 48 ∨ 57 < c.toNat) ∧ (c.toNat < 65 ∨ Go.bits .or .u8 (c.toNat : Int) 32 < 97 ∨ 122 < Go.bits .or .u8 (c.toNat : Int) 32) := by
 have h : ∀ n : Fin 256, nameC (UInt8.ofNat n.val) = false ↔ (UInt8.ofNat n.val).toNat ≠ 95 ∧ ((UInt8.ofNat n.val).toNat < 48 ∨ 57 < (UInt8.ofNat n.val).toNat) ∧ ((UInt8.ofNat n.val).toNat < 65 ∨ Go.bits .or .u8 ((UInt8.ofNat n.val).toNat : Int) 32 < 97 ∨ 122 < Go.bits .or .u8 ((UInt8.ofNat n.val).toNat : Int) 32) := by decide +kernel
 have := h ⟨c.toNat, c.toNat_lt⟩
 simpa using this
theorem name_loop (s : ByteArray) (hz : s.size ≤ 32) : ∀ (d i : Nat), s.size - i = d → i ≤ s.size →
  Ev (fun k => label_Name.l0 k (bytesOf s) ((bytesOf s).length : Int) (i : Int)) (((by_ s).drop i).all nameC)
 | 0, i, hd, hi => by
  have hb := by_length s
  have hl := bytesOf_length s
  refine Ev.step (fun _ => rfl) ?_
  simp only [label_Name.l0]
  rw [List.drop_of_length_le (by omega)]
  exact Ev.neg (by omega) (Ev.now _)
 | d + 1, i, hd, hi => by
  have hb := by_length s
  have hl := bytesOf_length s
  have hlt : i < (by_ s).length := by omega
  refine Ev.step (fun _ => rfl) ?_
  simp only [label_Name.l0]
  have ih := name_loop s hz d (i + 1) (by omega) (by omega)
  have hc : rd (bytesOf s) (i : Int) = (((by_ s)[i]).toNat : Int) := by rw [rd_bytesOf, bt_by s i hlt]
  rw [List.drop_eq_getElem_cons hlt, List.all_cons, w_succ i (by omega), hc]
  obtain ⟨c, hcc⟩ : ∃ c, (by_ s)[i] = c := ⟨_, rfl⟩
  rw [hcc]
  refine Ev.pos (by omega) (Ev.pos (by omega) (Ev.pos (by omega) ?_))
  by_cases hn : nameC c = true
  ·rw [hn, Bool.true_and]
   have h2 : ¬ (c.toNat ≠ 95 ∧ (c.toNat < 48 ∨ 57 < c.toNat) ∧ (c.toNat < 65 ∨ Go.bits .or .u8 (c.toNat : Int) 32 < 97 ∨ 122 < Go.bits .or .u8 (c.toNat : Int) 32)) := fun h => by rw [(nameC_no c).mpr h] at hn; cases hn
   by_cases c1 : (c.toNat : Int) = 95
   ·exact Ev.pos c1 ih
   refine Ev.neg c1 ?_
   by_cases c2 : (c.toNat : Int) < 48
   ·refine Ev.pos c2 (Ev.neg (by omega) (Ev.neg (by omega) (Ev.neg (by omega) ih)))
   refine Ev.neg c2 ?_
   by_cases c3 : (c.toNat : Int) > 57
   ·refine Ev.pos c3 (Ev.neg (by omega) (Ev.neg (by omega) (Ev.neg (by omega) ih)))
   ·exact Ev.neg c3 ih
  ·rw [Bool.not_eq_true] at hn
   obtain ⟨h1, h2, h3⟩ := (nameC_no c).mp hn
   rw [hn, Bool.false_and]
   refine Ev.neg (by omega) ?_
   by_cases c2 : (c.toNat : Int) < 48
   ·refine Ev.pos c2 ?_
    by_cases c4 : (c.toNat : Int) < 65
    ·exact Ev.pos c4 (Ev.now _)
    ·omega
   refine Ev.neg c2 (Ev.pos (by omega) ?_)
   by_cases c4 : (c.toNat : Int) < 65
   ·exact Ev.pos c4 (Ev.now _)
   refine Ev.neg c4 ?_
   by_cases c5 : Go.bits .or .u8 (c.toNat : Int) 32 < 97
   ·exact Ev.pos c5 (Ev.now _)
   ·exact Ev.neg c5 (Ev.pos (by omega) (Ev.now _))
theorem name_ev (s : ByteArray) : Ev (fun k => label_Name.f k s) (nameP (by_ s)) := by
 have hb := by_length s
 have hno : Ev (fun k => label_Name.j0 k s true) false := Ev.step (f := fun _ => some false) (fun _ => by simp [label_Name.j0]) (Ev.now _)
 unfold label_Name.f
 rw [toList_by]
 cases hs : by_ s with
 | nil => exact Ev.pos rfl hno
 | cons c l =>
  rw [hs] at hb
  simp only [List.length_cons] at hb
  have h0 : bt s 0 = (c.toNat : Int) := bt_at_ s 0 c (by rw [hs]; rfl)
  refine Ev.neg (by simp) ?_
  by_cases h32 : (s.size : Int) > 32
  ·refine Ev.pos h32 ?_
   have e : nameP (c :: l) = false := by simp only [nameP]; rw [decide_eq_false (by omega)]; rfl
   rw [e]
   exact hno
  refine Ev.neg h32 (Ev.pos (by omega) ?_)
  have hyes : Ev (fun k => label_Name.j0 k s false) ((c :: l).all nameC) := by
   refine Ev.step (fun _ => rfl) ?_
   simp only [label_Name.j0]
   have h := name_loop s (by omega) s.size 0 rfl (by omega)
   rw [List.drop_zero, hs] at h
   exact Ev.neg (by simp) (Ev.pos (by omega) (Ev.one h))
  rw [h0]
  have e0 : decide (l.length < 32) = true := decide_eq_true (by omega)
  simp only [nameP, e0, Bool.true_and]
  by_cases c1 : (c.toNat : Int) ≥ 48
  ·refine Ev.pos c1 ?_
   by_cases c2 : (c.toNat : Int) ≤ 57
   ·rw [decide_eq_true c2, decide_eq_true (show 48 ≤ c.toNat by omega), decide_eq_true (show c.toNat ≤ 57 by omega)]
    exact hno
   ·rw [decide_eq_false c2, decide_eq_false (show ¬ c.toNat ≤ 57 by omega), Bool.and_false, Bool.not_false, Bool.true_and]
    exact hyes
  ·refine Ev.neg c1 ?_
   rw [decide_eq_false (show ¬ 48 ≤ c.toNat by omega), Bool.false_and, Bool.not_false, Bool.true_and]
   exact hyes
end Go.Proofs.Ytaehlbbjbeibfaa.B
end

section
set_option linter.unusedVariables false
set_option linter.unusedSimpArgs false
namespace Go.Proofs.Ytaehlbbjbeibfaa.B
open Go.RowKit Go.Proofs.Ytaehlbbjbeibfaa.X Go.Proofs.YtaehlbbjbeibfaaW.PrintWords Go.Proofs.YtaehlbbjbeibfaaW.PrintLast

/-! ### how names stand -/
/-- one name ahead of another one -/
def nl (a b : ByteArray) : Prop := Op.bytesLess (by_ a) (by_ b) = true
instance (a b : ByteArray) : Decidable (nl a b) := inferInstanceAs (Decidable (_ = true))
theorem cmpB : ∀ (a b : List UInt8), (Op.bytesLess a b = true ∧ Lib.compareBytes a b = -1) ∨ (a = b ∧ Lib.compareBytes a b = 0) ∨ (Op.bytesLess b a = true ∧ Lib.compareBytes a b = 1)
 | [], [] => .inr (.inl ⟨rfl, rfl⟩)
 | [], _ :: _ => .inl ⟨rfl, rfl⟩
 | _ :: _, [] => .inr (.inr ⟨rfl, rfl⟩)
 | x :: a, y :: b => by
  simp only [Op.bytesLess, Lib.compareBytes]
  by_cases h1 : x < y
  ·exact .inl ⟨by simp [h1], by simp [h1]⟩
  ·by_cases h2 : y < x
   ·exact .inr (.inr ⟨by simp [h2], by simp [h1, h2]⟩)
   ·have e : x = y := by
     rw [UInt8.lt_iff_toNat_lt] at h1 h2
     exact UInt8.toNat_inj.1 (by omega)
    subst e
    rw [if_neg h1, if_neg h1]
    rcases cmpB a b with h | h | h
    ·exact .inl ⟨by simp [h.1], h.2⟩
    ·exact .inr (.inl ⟨by rw [h.1], h.2⟩)
    ·exact .inr (.inr ⟨by simp [h.1], h.2⟩)
theorem less_trans : ∀ {a b c : List UInt8}, Op.bytesLess a b = true → Op.bytesLess b c = true → Op.bytesLess a c = true
 | _, _, [], _, h => by simp [Op.bytesLess] at h
 | _, [], _ :: _, h, _ => by simp [Op.bytesLess] at h
 | [], _ :: _, _ :: _, _, _ => rfl
 | x :: a, y :: b, z :: c, h1, h2 => by
  simp only [Op.bytesLess, Bool.or_eq_true, decide_eq_true_eq, Bool.and_eq_true, beq_iff_eq, UInt8.lt_iff_toNat_lt] at h1 h2 ⊢
  rcases h1 with h1 | ⟨e1, h1⟩
  ·rcases h2 with h2 | ⟨e2, h2⟩
   ·exact .inl (by omega)
   ·exact .inl (by rw [← e2]; exact h1)
  ·rcases h2 with h2 | ⟨e2, h2⟩
   ·exact .inl (by rw [e1]; exact h2)
   ·exact .inr ⟨e1.trans e2, less_trans h1 h2⟩
theorem nl_irrefl (a : ByteArray) : ¬ nl a a := fun h => x_less_ne h rfl
theorem nl_asym {a b : ByteArray} (h : nl a b) : ¬ nl b a := fun h2 => by
 have := x_less_asym h
 rw [h2] at this
 cases this
theorem nl_trans {a b c : ByteArray} (h : nl a b) (h2 : nl b c) : nl a c := less_trans h h2
theorem nl_tri {a b : ByteArray} (h : ¬ nl a b) (h2 : ¬ nl b a) : a = b := by
 apply by_ext
 exact x_less_tri (Bool.not_eq_true _ ▸ h) (Bool.not_eq_true _ ▸ h2)
theorem names_f (a b c d : ByteArray) : ∃ r, label_names.f a b c d = some r ∧ (r < 0 ↔ nl a c) ∧ (r = 0 ↔ a = c) := by
 refine ⟨Lib.compareBytes (by_ a) (by_ c), ?_, ?_, ?_⟩
 ·unfold label_names.f strings_Compare.f
  rfl
 ·rcases cmpB (by_ a) (by_ c) with h | h | h
  ·rw [h.2]
   exact ⟨fun _ => h.1, fun _ => by omega⟩
  ·rw [h.2]
   exact ⟨fun h => by omega, fun h2 => absurd h.1 (x_less_ne h2)⟩
  ·rw [h.2]
   exact ⟨fun h => by omega, fun h2 => absurd h2 (nl_asym (a := c) (b := a) h.1)⟩
 ·rcases cmpB (by_ a) (by_ c) with h | h | h
  ·rw [h.2]
   exact ⟨fun h => by omega, fun e => by subst e; exact absurd h.1 (nl_irrefl a)⟩
  ·rw [h.2]
   exact ⟨fun _ => by_ext h.1, fun _ => rfl⟩
  ·rw [h.2]
   exact ⟨fun h => by omega, fun e => by subst e; exact absurd h.1 (nl_irrefl a)⟩
/-! ### sets: each name once, rising -/
abbrev Lab := S103
def Rise (l : List Lab) : Prop := l.Pairwise fun a b => nl a.f0 b.f0
/-- how many stand ahead of a name -/
def posP (l : List Lab) (n : ByteArray) : Nat := (l.takeWhile fun x => decide (nl x.f0 n)).length
theorem posP_le (l : List Lab) (n : ByteArray) : posP l n ≤ l.length := (List.takeWhile_sublist _).length_le
theorem posP_lt : ∀ (l : List Lab) (n : ByteArray) (i : Nat) (h : i < l.length), i < posP l n → nl l[i].f0 n
 | x :: l, n, i, h, hi => by
  unfold posP at hi
  rw [List.takeWhile_cons] at hi
  split at hi
  ·rename_i hx
   cases i with
   | zero => simpa using hx
   | succ i => exact posP_lt l n i (by simpa using h) (by simpa [posP] using hi)
  ·simp at hi
theorem posP_ge : ∀ (l : List Lab) (hr : Rise l) (n : ByteArray) (i : Nat) (h : i < l.length), posP l n ≤ i → ¬ nl l[i].f0 n
 | x :: l, hr, n, i, h, hi => by
  unfold posP at hi
  rw [List.takeWhile_cons] at hi
  unfold Rise at hr
  rw [List.pairwise_cons] at hr
  split at hi
  ·cases i with
   | zero => simp at hi
   | succ i => exact posP_ge l hr.2 n i (by simpa using h) (by simpa [posP] using hi)
  ·rename_i hx
   have hx' : ¬ nl x.f0 n := by simpa using hx
   cases i with
   | zero => exact hx'
   | succ i =>
    have hi' : i < l.length := by simpa using h
    have h1 := hr.1 l[i] (List.getElem_mem hi')
    exact fun h2 => hx' (nl_trans h1 h2)
theorem posP_is (l : List Lab) (hr : Rise l) (n : ByteArray) (r : Nat) (hr1 : r ≤ l.length) (h1 : ∀ i (h : i < l.length), i < r → nl l[i].f0 n) (h2 : ∀ i (h : i < l.length), r ≤ i → ¬ nl l[i].f0 n) : r = posP l n := by
 have hp := posP_le l n
 rcases Nat.lt_trichotomy r (posP l n) with h | h | h
 ·exact absurd (posP_lt l n r (by omega) h) (h2 r (by omega) (Nat.le_refl _))
 ·exact h
 ·exact absurd (h1 (posP l n) (by omega) h) (posP_ge l hr n _ (by omega) (Nat.le_refl _))
theorem rdLab (l : List Lab) (i : Nat) (h : i < l.length) : rd_T103 l (i : Int) = l[i] := by simp [rd_T103, h]
theorem mid_w (i j : Nat) (h : i + j < 4611686018427387904) : wrap64 ((IntKind.u64.wrap (wrap64 ((i : Int) + (j : Int)))) / 2) = (((i + j) / 2 : Nat) : Int) := by
 have e1 : wrap64 ((i : Int) + (j : Int)) = ((i + j : Nat) : Int) := by rw [wrap_in] <;> omega
 have e2 : IntKind.u64.wrap ((i + j : Nat) : Int) = ((i + j : Nat) : Int) := by
  unfold IntKind.wrap
  simp [IntKind.bits, IntKind.signed]
  omega
 rw [e1, e2, wrap_in] <;> omega
theorem search_loop (l : List Lab) (hl : l.length < 1000000000) (hr : Rise l) (n v : ByteArray) : ∀ (d i j : Nat), j - i ≤ d → i ≤ j → j ≤ l.length → (∀ m (h : m < l.length), m < i → nl l[m].f0 n) → (∀ m (h : m < l.length), j ≤ m → ¬ nl l[m].f0 n) →
  Ev (fun k => label_Pair_label_names.l0 k l (l.length : Int) (i : Int) (j : Int) n v) ((posP l n : Int), if h : posP l n < l.length then decide (l[posP l n].f0 = n) else false) := by
 intro d
 induction d with
 | zero =>
  intro i j hd hij hj h1 h2
  have e : i = j := by omega
  subst e
  have hp := posP_is l hr n i hj h1 h2
  refine Ev.step (fun _ => rfl) ?_
  simp only [label_Pair_label_names.l0]
  refine Ev.neg (by omega) ?_
  rw [← hp]
  by_cases hlt : i < l.length
  ·obtain ⟨r, hf, _, h0⟩ := names_f l[i].f0 l[i].f1 n v
   rw [rdLab l i hlt, hf, dif_pos hlt]
   refine Ev.pos (by omega) (Ev.pos (by omega) (Ev.pos (by omega) (Ev.one (Ev.ret ?_))))
   congr 1
   rw [Bool.eq_iff_iff, beq_iff_eq, decide_eq_true_eq]
   exact h0
  ·rw [dif_neg hlt]
   exact Ev.neg (by omega) (Ev.now _)
 | succ d ih =>
  intro i j hd hij hj h1 h2
  by_cases hlt : i < j
  ·obtain ⟨m, hm⟩ : ∃ m, (i + j) / 2 = m := ⟨_, rfl⟩
   have hmi : i ≤ m ∧ m < j := by omega
   have hml : m < l.length := by omega
   obtain ⟨r, hf, hneg, _⟩ := names_f l[m].f0 l[m].f1 n v
   refine Ev.step (fun _ => rfl) ?_
   simp only [label_Pair_label_names.l0]
   rw [mid_w i j (by omega), hm, rdLab l m hml, hf, w1 m (by omega)]
   refine Ev.pos (by omega) (Ev.pos (by omega) (Ev.pos (by omega) (Ev.one ?_)))
   by_cases hc : r < 0
   ·refine Ev.pos hc (ih (m + 1) j (by omega) (by omega) hj (fun q hq hqm => ?_) h2)
    have hx := hneg.1 hc
    rcases Nat.lt_or_ge q m with h | h
    ·exact nl_trans ((List.pairwise_iff_getElem.1 hr) q m hq hml h) hx
    ·have : q = m := by omega
     subst this
     exact hx
   ·refine Ev.neg hc (ih i m (by omega) (by omega) (by omega) h1 (fun q hq hqm => ?_))
    have hx : ¬ nl l[m].f0 n := fun h => hc (hneg.2 h)
    rcases Nat.lt_or_ge m q with h | h
    ·exact fun h3 => hx (nl_trans ((List.pairwise_iff_getElem.1 hr) m q hml hq h) h3)
    ·have : q = m := by omega
     subst this
     exact hx
  ·have e : i = j := by omega
   subst e
   exact ih i i (by omega) (Nat.le_refl _) hj h1 h2
end Go.Proofs.Ytaehlbbjbeibfaa.B
end

section
set_option linter.unusedVariables false
set_option linter.unusedSimpArgs false
namespace Go.Proofs.Ytaehlbbjbeibfaa.B
open Go.RowKit Go.Proofs.Ytaehlbbjbeibfaa.X Go.Proofs.YtaehlbbjbeibfaaW.PrintWords Go.Proofs.YtaehlbbjbeibfaaW.PrintLast

/-- one label more -/
def stepP (l : List Lab) (p : Lab) : List Lab :=
 if h : posP l p.f0 < l.length then if l[posP l p.f0].f0 = p.f0 then l.set (posP l p.f0) p else l.take (posP l p.f0) ++ [p] ++ l.drop (posP l p.f0)
 else l ++ [p]
theorem rise_cons {x : Lab} {l : List Lab} (h : Rise (x :: l)) : (∀ y ∈ l, nl x.f0 y.f0) ∧ Rise l := by
 unfold Rise at h
 rwa [List.pairwise_cons] at h
theorem stepP_cons (x : Lab) (l : List Lab) (p : Lab) : stepP (x :: l) p = if nl x.f0 p.f0 then x :: stepP l p else if x.f0 = p.f0 then p :: l else p :: x :: l := by
 unfold stepP posP
 by_cases h : nl x.f0 p.f0
 ·rw [if_pos h]
  simp only [List.takeWhile_cons, decide_eq_true h, if_true, List.length_cons, Nat.add_lt_add_iff_right, List.getElem_cons_succ, List.set_cons_succ, List.take_succ_cons, List.drop_succ_cons, List.cons_append]
  split
  ·split <;> rfl
  ·rfl
 ·rw [if_neg h]
  simp only [List.takeWhile_cons, decide_eq_false h, if_false, List.length_nil, List.length_cons, Bool.false_eq_true, Nat.zero_lt_succ, dite_true, List.getElem_cons_zero, List.set_cons_zero, List.take_zero, List.drop_zero, List.nil_append, List.singleton_append]
theorem stepP_mem : ∀ (l : List Lab) (p y : Lab), y ∈ stepP l p → y = p ∨ y ∈ l
 | [], p, y, h => .inl (List.mem_singleton.1 h)
 | x :: l, p, y, h => by
  rw [stepP_cons] at h
  split at h
  ·rcases List.mem_cons.1 h with rfl | h
   ·exact .inr (by simp)
   ·rcases stepP_mem l p y h with h | h
    ·exact .inl h
    ·exact .inr (by simp [h])
  ·split at h
   ·rcases List.mem_cons.1 h with rfl | h
    ·exact .inl rfl
    ·exact .inr (by simp [h])
   ·rcases List.mem_cons.1 h with rfl | h
    ·exact .inl rfl
    ·exact .inr h
theorem stepP_rise : ∀ (l : List Lab) (p : Lab), Rise l → Rise (stepP l p)
 | [], p, _ => List.pairwise_singleton ..
 | x :: l, p, h => by
  obtain ⟨h1, h2⟩ := rise_cons h
  rw [stepP_cons]
  split
  ·rename_i hx
   refine List.pairwise_cons.2 ⟨fun y hy => ?_, stepP_rise l p h2⟩
   rcases stepP_mem l p y hy with rfl | hy
   ·exact hx
   ·exact h1 y hy
  ·rename_i hx
   split
   ·rename_i he
    exact List.pairwise_cons.2 ⟨fun y hy => by rw [← he]; exact h1 y hy, h2⟩
   ·rename_i hne
    have hpx : nl p.f0 x.f0 := by
     by_cases h3 : nl p.f0 x.f0
     ·exact h3
     ·exact absurd (nl_tri hx h3) hne
    refine List.pairwise_cons.2 ⟨fun y hy => ?_, h⟩
    rcases List.mem_cons.1 hy with rfl | hy
    ·exact hpx
    ·exact nl_trans hpx (h1 y hy)
theorem stepP_length (l : List Lab) (p : Lab) : (stepP l p).length ≤ l.length + 1 := by
 induction l with
 | nil => exact Nat.le_refl _
 | cons x l ih =>
  rw [stepP_cons]
  split
  ·simp only [List.length_cons]
   omega
  ·split <;> simp
/-! ### label.Of -/
def ofP (l : List Lab) (L : List Lab) : List Lab := L.foldl (fun a p => if nameP (by_ p.f0) = true then stepP a p else a) l
theorem ofP_length : ∀ (L l : List Lab), (ofP l L).length ≤ l.length + L.length
 | [], _ => Nat.le_refl _
 | p :: L, l => by
  have h := ofP_length L (if nameP (by_ p.f0) = true then stepP l p else l)
  have h2 := stepP_length l p
  unfold ofP at h ⊢
  rw [List.foldl_cons, List.length_cons]
  by_cases hn : nameP (by_ p.f0) = true
  ·rw [if_pos hn] at h ⊢
   omega
  ·rw [if_neg hn] at h ⊢
   omega
theorem of_loop (L : List Lab) (hL : L.length ≤ 1000000) : ∀ (d i : Nat) (l : List Lab), L.length - i = d → i ≤ L.length → l.length ≤ i → Rise l →
  Ev (fun k => label_Of.l0 k l L (L.length : Int) (i : Int)) (ofP l (L.drop i)) := by
 intro d
 induction d with
 | zero =>
  intro i l hd hi hl hr
  refine Ev.step (fun _ => rfl) ?_
  simp only [label_Of.l0]
  rw [List.drop_of_length_le (by omega)]
  exact Ev.neg (by omega) (Ev.now _)
 | succ d ih =>
  intro i l hd hi hl hr
  have hlt : i < L.length := by omega
  obtain ⟨p, hp⟩ : ∃ p, L[i] = p := ⟨_, rfl⟩
  rw [List.drop_eq_getElem_cons hlt, hp]
  have hpl := posP_le l p.f0
  have hs := search_loop l (by omega) hr p.f0 p.f1 l.length 0 l.length (by omega) (Nat.zero_le _) (Nat.le_refl _) (fun m _ h => absurd h (Nat.not_lt_zero m)) (fun m h h2 => by omega)
  refine Ev.step (fun _ => rfl) ?_
  simp only [label_Of.l0]
  rw [rdLab L i hlt, hp, w1 i (by omega)]
  refine Ev.pos (by omega) (Ev.pos (by omega) (Ev.pos (by omega) (Ev.bind (name_ev p.f0) ?_)))
  unfold ofP
  rw [List.foldl_cons]
  by_cases hn : nameP (by_ p.f0) = true
  ·rw [if_pos hn]
   refine Ev.pos hn (Ev.bind hs ?_)
   have ih' := ih (i + 1) (stepP l p) (by omega) (by omega) (by have := stepP_length l p; omega) (stepP_rise l p hr)
   unfold ofP at ih'
   dsimp only
   by_cases hlt2 : posP l p.f0 < l.length
   ·rw [dif_pos hlt2]
    by_cases he : l[posP l p.f0].f0 = p.f0
    ·have e : stepP l p = l.set (posP l p.f0) p := by unfold stepP; rw [dif_pos hlt2, if_pos he]
     rw [e] at ih' ⊢
     rw [Int.toNat_natCast]
     exact Ev.pos (decide_eq_true he) (Ev.pos (by omega) (Ev.pos (by omega) ih'))
    ·have e : stepP l p = l.take (posP l p.f0) ++ [p] ++ l.drop (posP l p.f0) := by unfold stepP; rw [dif_pos hlt2, if_neg he]
     have e2 : label_Pair.f l (posP l p.f0 : Int) [p] = some (stepP l p) := by
      unfold label_Pair.f
      rw [if_pos ⟨by omega, by omega, rfl, by omega⟩, Int.toNat_natCast, e]
     refine Ev.neg (by rw [decide_eq_true_eq]; exact he) ?_
     show Ev (fun k => (label_Pair.f l (posP l p.f0 : Int) [p]).bind fun t => label_Of.l0 k t L (L.length : Int) ((i + 1 : Nat) : Int)) _
     rw [e2]
     exact Ev.one ih'
   ·rw [dif_neg hlt2]
    have e0 : posP l p.f0 = l.length := by omega
    have e : stepP l p = l ++ [p] := by unfold stepP; rw [dif_neg hlt2]
    have e2 : label_Pair.f l (posP l p.f0 : Int) [p] = some (stepP l p) := by
     unfold label_Pair.f
     rw [if_pos ⟨by omega, by omega, rfl, by omega⟩, Int.toNat_natCast, e0, List.take_length, List.drop_length, List.append_nil, e]
    refine Ev.neg (by decide) ?_
    show Ev (fun k => (label_Pair.f l (posP l p.f0 : Int) [p]).bind fun t => label_Of.l0 k t L (L.length : Int) ((i + 1 : Nat) : Int)) _
    rw [e2]
    exact Ev.one ih'
  ·rw [if_neg hn]
   have ih' := ih (i + 1) l (by omega) (by omega) (by omega) hr
   unfold ofP at ih'
   exact Ev.neg hn ih'
theorem of_ev (L : List Lab) (hL : L.length ≤ 1000000) : Ev (fun k => label_Of.f k L) (ofP [] L) := by
 have h := of_loop L hL L.length 0 [] rfl (Nat.zero_le _) (Nat.zero_le _) List.Pairwise.nil
 rw [List.drop_zero] at h
 exact h
end Go.Proofs.Ytaehlbbjbeibfaa.B
end

section
set_option linter.unusedVariables false
set_option linter.unusedSimpArgs false
namespace Go.Proofs.Ytaehlbbjbeibfaa.B
open Go.RowKit Go.Proofs.Ytaehlbbjbeibfaa.X Go.Proofs.YtaehlbbjbeibfaaW.PrintWords Go.Proofs.YtaehlbbjbeibfaaW.PrintLast

theorem ba_eq {a b : ByteArray} : a.toList = b.toList ↔ a = b := by
 rw [toList_by, toList_by]
 exact ⟨by_ext, fun h => by rw [h]⟩
/-! ### are two the same? -/
instance : DecidableEq Lab := fun a b =>
 if h : a.f0 = b.f0 ∧ a.f1 = b.f1 then isTrue (by
  cases a
  cases b
  simp only at h
  rw [h.1, h.2]) else isFalse (fun e => h (by rw [e]; exact ⟨rfl, rfl⟩))
/-! ### with more -/
end Go.Proofs.Ytaehlbbjbeibfaa.B
end

section
set_option linter.unusedVariables false
set_option linter.unusedSimpArgs false
namespace Go.Proofs.Ytaehlbbjbeibfaa.B
open Go.RowKit Go.Proofs.Ytaehlbbjbeibfaa.X Go.Proofs.YtaehlbbjbeibfaaW.PrintWords Go.Proofs.YtaehlbbjbeibfaaW.PrintLast

def cB (a b : ByteArray) : Int := Lib.compareBytes (by_ a) (by_ b)
/-- how two of one kind stand: one of three, none just for the same, the other way round the contrary; it does not go round -/
structure Stands {α : Type} (c : α → α → Int) : Prop where
 one : ∀ a b, c a b = -1 ∨ c a b = 0 ∨ c a b = 1
 eq : ∀ a b, c a b = 0 ↔ a = b
 flip : ∀ a b, c a b = - c b a
 round : ∀ a b d, c a b = -1 → c b d = -1 → c a d = -1
theorem cB_stands : Stands cB where
 one a b := by unfold cB; rcases cmpB (by_ a) (by_ b) with h | h | h <;> rw [h.2] <;> simp
 eq a b := by
  unfold cB
  rcases cmpB (by_ a) (by_ b) with h | h | h
  ·rw [h.2]
   exact ⟨fun h => by omega, fun e => by subst e; exact absurd h.1 (nl_irrefl a)⟩
  ·rw [h.2]
   exact ⟨fun _ => by_ext h.1, fun _ => rfl⟩
  ·rw [h.2]
   exact ⟨fun h => by omega, fun e => by subst e; exact absurd h.1 (nl_irrefl a)⟩
 flip a b := by
  unfold cB
  rcases cmpB (by_ a) (by_ b) with h | h | h <;> rcases cmpB (by_ b) (by_ a) with h2 | h2 | h2
  ·exact absurd h2.1 (nl_asym (a := a) (b := b) h.1)
  ·exact absurd h2.1.symm (x_less_ne h.1)
  ·simp [h.2, h2.2]
  ·exact absurd h.1.symm (x_less_ne h2.1)
  ·simp [h.2, h2.2]
  ·exact absurd h.1 (x_less_ne h2.1)
  ·simp [h.2, h2.2]
  ·exact absurd h2.1 (x_less_ne h.1)
  ·exact absurd h2.1 (nl_asym (a := b) (b := a) h.1)
 round a b d h1 h2 := by
  unfold cB at h1 h2 ⊢
  have l1 : nl a b := by
   rcases cmpB (by_ a) (by_ b) with h | h | h
   ·exact h.1
   ·rw [h.2] at h1; cases h1
   ·rw [h.2] at h1; cases h1
  have l2 : nl b d := by
   rcases cmpB (by_ b) (by_ d) with h | h | h
   ·exact h.1
   ·rw [h.2] at h2; cases h2
   ·rw [h.2] at h2; cases h2
  rcases cmpB (by_ a) (by_ d) with h | h | h
  ·exact h.2
  ·exact absurd h.1 (x_less_ne (nl_trans l1 l2))
  ·exact absurd h.1 (nl_asym (nl_trans l1 l2))
def cL (x y : Lab) : Int := if cB x.f0 y.f0 = 0 then cB x.f1 y.f1 else cB x.f0 y.f0
theorem cL_stands : Stands cL where
 one a b := by
  unfold cL
  split
  ·exact cB_stands.one _ _
  ·exact cB_stands.one _ _
 eq a b := by
  unfold cL
  have e0 := cB_stands.eq a.f0 b.f0
  have e1 := cB_stands.eq a.f1 b.f1
  by_cases h : cB a.f0 b.f0 = 0
  ·rw [if_pos h]
   refine ⟨fun h2 => ?_, fun e => by rw [e] at e1 ⊢; exact e1.2 rfl⟩
   have h3 := e0.1 h
   have h4 := e1.1 h2
   cases a
   cases b
   simp only at h3 h4
   rw [h3, h4]
  ·rw [if_neg h]
   exact ⟨fun h2 => absurd h2 h, fun e => by rw [e] at e0 ⊢; exact e0.2 rfl⟩
 flip a b := by
  unfold cL
  have f0 := cB_stands.flip a.f0 b.f0
  have f1 := cB_stands.flip a.f1 b.f1
  by_cases h : cB a.f0 b.f0 = 0
  ·rw [if_pos h, if_pos (by omega), f1]
  ·rw [if_neg h, if_neg (by omega), f0]
 round a b d h1 h2 := by
  unfold cL at h1 h2 ⊢
  by_cases g1 : cB a.f0 b.f0 = 0
  ·rw [if_pos g1] at h1
   rw [(cB_stands.eq _ _).1 g1]
   by_cases g2 : cB b.f0 d.f0 = 0
   ·rw [if_pos g2] at h2 ⊢
    exact cB_stands.round _ _ _ h1 h2
   ·rw [if_neg g2] at h2 ⊢
    exact h2
  ·rw [if_neg g1] at h1
   by_cases g2 : cB b.f0 d.f0 = 0
   ·rw [← (cB_stands.eq _ _).1 g2, if_neg g1]
    exact h1
   ·rw [if_neg g2] at h2
    have := cB_stands.round _ _ _ h1 h2
    rw [this]
    rfl
def ordL : List Lab → List Lab → Int
 | [], [] => 0
 | [], _ :: _ => -1
 | _ :: _, [] => 1
 | x :: a, y :: b => if cL x y = 0 then ordL a b else cL x y
theorem ordL_one : ∀ a b, ordL a b = -1 ∨ ordL a b = 0 ∨ ordL a b = 1
 | [], [] => by simp [ordL]
 | [], _ :: _ => by simp [ordL]
 | _ :: _, [] => by simp [ordL]
 | x :: a, y :: b => by
  unfold ordL
  split
  ·exact ordL_one a b
  ·exact cL_stands.one x y
theorem ordL_eq : ∀ a b, ordL a b = 0 ↔ a = b
 | [], [] => by simp [ordL]
 | [], _ :: _ => by simp [ordL]
 | _ :: _, [] => by simp [ordL]
 | x :: a, y :: b => by
  unfold ordL
  by_cases h : cL x y = 0
  ·rw [if_pos h, ordL_eq a b, (cL_stands.eq x y).1 h]
   exact ⟨fun h => by rw [h], fun h => by injection h⟩
  ·rw [if_neg h]
   exact ⟨fun h2 => absurd h2 h, fun e => by injection e with e1 e2; exact absurd ((cL_stands.eq x y).2 e1) h⟩
theorem ordL_flip : ∀ a b, ordL a b = - ordL b a
 | [], [] => by simp [ordL]
 | [], _ :: _ => by simp [ordL]
 | _ :: _, [] => by simp [ordL]
 | x :: a, y :: b => by
  unfold ordL
  have f := cL_stands.flip x y
  by_cases h : cL x y = 0
  ·rw [if_pos h, if_pos (by omega), ordL_flip a b]
  ·rw [if_neg h, if_neg (by omega), f]
theorem ordL_round : ∀ a b d, ordL a b = -1 → ordL b d = -1 → ordL a d = -1
 | [], [], d, h, _ => by simp [ordL] at h
 | [], _ :: _, [], _, h => by simp [ordL] at h
 | [], _ :: _, _ :: _, _, _ => by simp [ordL]
 | _ :: _, [], d, h, _ => by simp [ordL] at h
 | _ :: _, _ :: _, [], _, h => by simp [ordL] at h
 | x :: a, y :: b, z :: d, h1, h2 => by
  unfold ordL at h1 h2 ⊢
  by_cases g1 : cL x y = 0
  ·rw [if_pos g1] at h1
   rw [(cL_stands.eq _ _).1 g1]
   by_cases g2 : cL y z = 0
   ·rw [if_pos g2] at h2 ⊢
    exact ordL_round a b d h1 h2
   ·rw [if_neg g2] at h2 ⊢
    exact h2
  ·rw [if_neg g1] at h1
   by_cases g2 : cL y z = 0
   ·rw [← (cL_stands.eq _ _).1 g2, if_neg g1]
    exact h1
   ·rw [if_neg g2] at h2
    have := cL_stands.round _ _ _ h1 h2
    rw [this]
    rfl
/-! ### the code's -/
theorem or_ev (a b : Int) : Ev (fun k => cmp_Or_int.f k [a, b]) (if a = 0 then b else a) := by
 unfold cmp_Or_int.f
 refine Ev.step (fun _ => rfl) ?_
 simp only [cmp_Or_int.l0]
 refine Ev.pos (by simp) (Ev.pos (by decide) (Ev.pos (by simp) ?_))
 have r0 : rd [a, b] 0 = a := rfl
 rw [r0]
 by_cases h : a = 0
 ·rw [if_pos h]
  refine Ev.pos h (Ev.step (fun _ => rfl) ?_)
  simp only [cmp_Or_int.l0]
  rw [show wrap64 (0 + 1) = 1 by rw [wrap_in] <;> omega]
  refine Ev.pos (by simp) (Ev.pos (by decide) (Ev.pos (by simp) ?_))
  have r1 : rd [a, b] 1 = b := rfl
  rw [r1]
  by_cases h2 : b = 0
  ·rw [h2]
   refine Ev.pos rfl (Ev.step (fun _ => rfl) ?_)
   simp only [cmp_Or_int.l0]
   rw [show wrap64 (1 + 1) = 2 by rw [wrap_in] <;> omega]
   exact Ev.neg (by simp) (Ev.now _)
  ·exact Ev.neg h2 (Ev.now _)
 ·rw [if_neg h]
  exact Ev.neg h (Ev.now _)
theorem order1_ev (x y : Lab) : Ev (fun k => label_Order_1.f k x.f0 x.f1 y.f0 y.f1) (cL x y) := by
 unfold label_Order_1.f label_names.f strings_Compare.f
 exact Ev.bind (Ev.now _) (Ev.one (Ev.bind (or_ev (cB x.f0 y.f0) (cB x.f1 y.f1)) (Ev.now _)))
theorem order_loop (l r : List Lab) (hl : l.length ≤ 4398046511104) : ∀ (d i : Nat), l.length - i = d → i ≤ l.length → i ≤ r.length →
  Ev (fun k => label_Pair_label_Order_1.l0 k l r l (l.length : Int) (i : Int)) (ordL (l.drop i) (r.drop i)) := by
 intro d
 induction d with
 | zero =>
  intro i hd hi hir
  refine Ev.step (fun _ => rfl) ?_
  simp only [label_Pair_label_Order_1.l0]
  rw [List.drop_of_length_le (by omega)]
  refine Ev.neg (by omega) ?_
  by_cases h : l.length < r.length
  ·rw [List.drop_eq_getElem_cons (show i < r.length by omega)]
   exact Ev.pos (by omega) (Ev.now _)
  ·rw [List.drop_of_length_le (show r.length ≤ i by omega)]
   exact Ev.neg (by omega) (Ev.now _)
 | succ d ih =>
  intro i hd hi hir
  have hlt : i < l.length := by omega
  refine Ev.step (fun _ => rfl) ?_
  simp only [label_Pair_label_Order_1.l0]
  rw [List.drop_eq_getElem_cons hlt]
  refine Ev.pos (by omega) (Ev.pos (by omega) (Ev.pos (by omega) ?_))
  by_cases h : i < r.length
  ·have ih' := ih (i + 1) (by omega) (by omega) (by omega)
   rw [List.drop_eq_getElem_cons h, rdLab l i hlt, rdLab r i h, w1 i (by omega)]
   refine Ev.neg (by omega) (Ev.pos (by omega) (Ev.bind (order1_ev l[i] r[i]) ?_))
   unfold ordL
   by_cases h2 : cL l[i] r[i] = 0
   ·rw [if_pos h2]
    exact Ev.pos h2 ih'
   ·rw [if_neg h2]
    exact Ev.neg h2 (Ev.now _)
  ·rw [List.drop_of_length_le (show r.length ≤ i by omega)]
   exact Ev.pos (by omega) (Ev.now _)
theorem order_ev (l r : List Lab) (hl : l.length ≤ 4398046511104) : Ev (fun k => label_Order.f k l r) (ordL l r) := by
 unfold label_Order.f label_Pair_label_Order_1.f
 have h := order_loop l r hl l.length 0 rfl (Nat.zero_le _) (Nat.zero_le _)
 rw [List.drop_zero, List.drop_zero] at h
 exact Ev.bind h (Ev.now _)
end Go.Proofs.Ytaehlbbjbeibfaa.B
end

section
set_option linter.unusedVariables false
set_option linter.unusedSimpArgs false
namespace Go.Proofs.Ytaehlbbjbeibfaa.B
open Go.RowKit Go.Proofs.Ytaehlbbjbeibfaa.X Go.Proofs.YtaehlbbjbeibfaaW.PrintWords Go.Proofs.YtaehlbbjbeibfaaW.PrintLast

abbrev Tg := S105
theorem rdTag (l : List Tg) (i : Nat) (h : i < l.length) : rd_T105 l (i : Int) = l[i] := by simp [rd_T105, h]
/-! ### what Of tells of a name -/
theorem of_len (L : List Lab) : (ofP [] L).length ≤ L.length := by have := ofP_length L []; simpa using this
end Go.Proofs.Ytaehlbbjbeibfaa.B
end

section
set_option linter.unusedVariables false
set_option linter.unusedSimpArgs false
namespace Go.Proofs.Ytaehlbbjbeibfaa.Pure
open Go.RowKit Go.Proofs.Ytaehlbbjbeibfaa.X Go.Proofs.Ytaehlbbjbeibfaa.B Go.Proofs.YtaehlbbjbeibfaaW.PrintWords Go.Proofs.YtaehlbbjbeibfaaW.PrintLast

def in64 (x : Int) : Prop := -9223372036854775808 ≤ x ∧ x ≤ 9223372036854775807
instance (x : Int) : Decidable (in64 x) := inferInstanceAs (Decidable (_ ∧ _))
theorem in64_wf {n : Int} (h : (Lit.int .i64 n).wf = true) : in64 n := by
 simp only [Lit.wf, IntKind.min, IntKind.max, IntKind.signed, IntKind.bits, Bool.and_eq_true, decide_eq_true_eq, if_true] at h
 unfold in64
 omega
theorem in64_wrap (x : Int) : in64 (wrap64 x) := by unfold in64 wrap64; omega
/-! ### of two -/
/-! ### of many -/
section
variable (l : List Int) (hl : ∀ x ∈ l, in64 x) (hs : l.length < 4611686018427387904)
include hl hs
end
end Go.Proofs.Ytaehlbbjbeibfaa.Pure
end

section
set_option linter.unusedVariables false
set_option linter.unusedSimpArgs false
namespace Go.Proofs.Ytaehlbbjbeibfaa.B
open Go.RowKit Go.Proofs.Ytaehlbbjbeibfaa.X Go.Proofs.Ytaehlbbjbeibfaa.Pure Go.Proofs.YtaehlbbjbeibfaaW.PrintWords Go.Proofs.YtaehlbbjbeibfaaW.PrintLast

abbrev Ent := S26
/-! ### how two stand -/
def cI (a b : Int) : Int := if a < b then -1 else if a > b then 1 else 0
theorem cI_stands : Stands cI where
 one a b := by unfold cI; split <;> (try split) <;> omega
 eq a b := by unfold cI; split <;> (try split) <;> omega
 flip a b := by unfold cI; (repeat' split) <;> omega
 round a b d := by unfold cI; (repeat' split) <;> omega
theorem cI_f (a b : Int) : cmp_Compare_int64.f a b = some (cI a b) := by
 unfold cmp_Compare_int64.f cmp_isNaN_int64.f cI
 simp only [bne_self_eq_false, Option.bind_some, Bool.false_eq_true, if_false]
 by_cases h1 : a < b
 ·rw [if_pos h1, if_pos h1]
 ·rw [if_neg h1, if_neg h1]
  by_cases h2 : a > b
  ·rw [if_pos h2, if_pos h2]
  ·rw [if_neg h2, if_neg h2]
theorem Stands.lex {α β γ : Type} {c1 : α → α → Int} {c2 : β → β → Int} (h1 : Stands c1) (h2 : Stands c2) (p : γ → α) (q : γ → β) (inj : ∀ a b, p a = p b → q a = q b → a = b) : Stands (fun x y => if c1 (p x) (p y) = 0 then c2 (q x) (q y) else c1 (p x) (p y)) where
 one a b := by
  (try dsimp only)
  split
  ·exact h2.one _ _
  ·exact h1.one _ _
 eq a b := by
  (try dsimp only)
  have e0 := h1.eq (p a) (p b)
  have e1 := h2.eq (q a) (q b)
  by_cases h : c1 (p a) (p b) = 0
  ·rw [if_pos h]
   exact ⟨fun h2 => inj a b (e0.1 h) (e1.1 h2), fun e => by subst e; exact e1.2 rfl⟩
  ·rw [if_neg h]
   exact ⟨fun h2 => absurd h2 h, fun e => by subst e; exact e0.2 rfl⟩
 flip a b := by
  (try dsimp only)
  have f0 := h1.flip (p a) (p b)
  have f1 := h2.flip (q a) (q b)
  by_cases h : c1 (p a) (p b) = 0
  ·rw [if_pos h, if_pos (by omega), f1]
  ·rw [if_neg h, if_neg (by omega), f0]
 round a b d := by
  (try dsimp only)
  intro g h
  by_cases g1 : c1 (p a) (p b) = 0
  ·rw [if_pos g1] at g
   rw [(h1.eq _ _).1 g1]
   by_cases g2 : c1 (p b) (p d) = 0
   ·rw [if_pos g2] at h ⊢
    exact h2.round _ _ _ g h
   ·rw [if_neg g2] at h ⊢
    exact h
  ·rw [if_neg g1] at g
   by_cases g2 : c1 (p b) (p d) = 0
   ·rw [← (h1.eq _ _).1 g2, if_neg g1]
    exact g
   ·rw [if_neg g2] at h
    have := h1.round _ _ _ g h
    rw [this]
    rfl
theorem Stands.le {α : Type} {c : α → α → Int} (h : Stands c) {a b d : α} (h1 : c a b ≤ 0) (h2 : c b d ≤ 0) : c a d ≤ 0 := by
 rcases h.one a b with g1 | g1 | g1
 ·rcases h.one b d with g2 | g2 | g2
  ·rw [h.round a b d g1 g2]
   omega
  ·rw [← (h.eq b d).1 g2]
   exact h1
  ·omega
 ·rw [(h.eq a b).1 g1]
  exact h2
 ·omega
theorem ordL_stands : Stands ordL := ⟨ordL_one, ordL_eq, ordL_flip, ordL_round⟩
def ordE (x y : Ent) : Int := if cI x.f0 y.f0 = 0 then (if ordL x.f1 y.f1 = 0 then cB x.f2 y.f2 else ordL x.f1 y.f1) else cI x.f0 y.f0
theorem ordE_stands : Stands ordE :=
 Stands.lex (c2 := fun (x y : List Lab × ByteArray) => if ordL x.1 y.1 = 0 then cB x.2 y.2 else ordL x.1 y.1) cI_stands (Stands.lex ordL_stands cB_stands Prod.fst Prod.snd (fun a b h1 h2 => Prod.ext h1 h2)) (fun x : Ent => x.f0) (fun x : Ent => (x.f1, x.f2)) (fun a b h1 h2 => by
  cases a
  cases b
  simp only [Prod.mk.injEq] at h1 h2
  obtain ⟨h2, h3⟩ := h2
  subst h1 h2 h3
  rfl)
theorem or3_ev (a b c : Int) : Ev (fun k => cmp_Or_int.f k [a, b, c]) (if a = 0 then (if b = 0 then c else b) else a) := by
 unfold cmp_Or_int.f
 refine Ev.step (fun _ => rfl) ?_
 simp only [cmp_Or_int.l0]
 refine Ev.pos (by simp) (Ev.pos (by decide) (Ev.pos (by simp) ?_))
 have r0 : rd [a, b, c] 0 = a := rfl
 rw [r0]
 by_cases h : a = 0
 ·rw [if_pos h]
  refine Ev.pos h (Ev.step (fun _ => rfl) ?_)
  simp only [cmp_Or_int.l0]
  rw [show wrap64 (0 + 1) = 1 by rw [wrap_in] <;> omega]
  refine Ev.pos (by simp) (Ev.pos (by decide) (Ev.pos (by simp) ?_))
  have r1 : rd [a, b, c] 1 = b := rfl
  rw [r1]
  by_cases h2 : b = 0
  ·rw [if_pos h2]
   refine Ev.pos h2 (Ev.step (fun _ => rfl) ?_)
   simp only [cmp_Or_int.l0]
   rw [show wrap64 (1 + 1) = 2 by rw [wrap_in] <;> omega]
   refine Ev.pos (by simp) (Ev.pos (by decide) (Ev.pos (by simp) ?_))
   have r2 : rd [a, b, c] 2 = c := rfl
   rw [r2]
   by_cases h3 : c = 0
   ·rw [h3]
    refine Ev.pos rfl (Ev.step (fun _ => rfl) ?_)
    simp only [cmp_Or_int.l0]
    rw [show wrap64 (2 + 1) = 3 by rw [wrap_in] <;> omega]
    exact Ev.neg (by simp) (Ev.now _)
   ·exact Ev.neg h3 (Ev.now _)
  ·rw [if_neg h2]
   exact Ev.neg h2 (Ev.now _)
 ·rw [if_neg h]
  exact Ev.neg h (Ev.now _)
def okE (x : Ent) : Prop := x.f1.length ≤ 4398046511104
theorem orderE_ev (x y : Ent) (hx : okE x) : Ev (fun k => entry_Order.f k x.f0 x.f1 x.f2 y.f0 y.f1 y.f2) (ordE x y) := by
 unfold entry_Order.f
 rw [cI_f]
 refine Ev.one (Ev.bind (order_ev x.f1 y.f1 hx) ?_)
 unfold strings_Compare.f
 exact Ev.one (Ev.bind (or3_ev _ _ _) (Ev.now _))
theorem sameE_ev (x y : Ent) (hx : okE x) : Ev (fun k => entry_Same.f k x.f0 x.f1 x.f2 y.f0 y.f1 y.f2) (ordE x y == 0) := by
 unfold entry_Same.f
 exact Ev.bind (orderE_ev x y hx) (Ev.now _)
def ahE (asc : Bool) (x y : Ent) : Bool := if asc = true then decide (ordE x y < 0) else decide (ordE y x < 0)
theorem aheadE_ev (x y : Ent) (asc : Bool) (hx : okE x) (hy : okE y) : Ev (fun k => entry_Ahead.f k x.f0 x.f1 x.f2 y.f0 y.f1 y.f2 asc) (ahE asc x y) := by
 unfold entry_Ahead.f ahE
 cases asc with
 | true => exact Ev.pos rfl (Ev.bind (orderE_ev x y hx) (Ev.now _))
 | false => exact Ev.neg (by simp) (Ev.bind (orderE_ev y x hy) (Ev.now _))
theorem rdEnt (l : List Ent) (i : Nat) (h : i < l.length) : rd_T26 l (i : Int) = l[i] := by simp [rd_T26, h]
theorem sortedE_loop (asc : Bool) (l : List Ent) (hl : ∀ x ∈ l, okE x) : ∀ (i : Nat), (i < l.length ∨ i = 0) → ∃ b, Ev (fun k => entry_Sorted.l0 k asc l i) b ∧ (b = true ↔ ∀ (j : Nat) (h : j + 1 < l.length), j < i → ahE asc l[j + 1] l[j] = false)
 | 0, _ => ⟨true, Ev.now _, ⟨fun _ j h hj => absurd hj (Nat.not_lt_zero _), fun _ => rfl⟩⟩
 | i + 1, h => by
  have hlt : i + 1 < l.length := by omega
  obtain ⟨b, hb, hbi⟩ := sortedE_loop asc l hl i (.inl (by omega))
  have ha := aheadE_ev l[i + 1] l[i] asc (hl _ (List.getElem_mem hlt)) (hl _ (List.getElem_mem _))
  unfold entry_Sorted.l0 entry_Sorted.cmp
  rw [rdEnt l (i + 1) hlt, rdEnt l i (by omega)]
  cases hah : ahE asc l[i + 1] l[i] with
  | true =>
   rw [hah] at ha
   refine ⟨false, Ev.bind ha (Ev.pos rfl (Ev.now _)), ⟨fun h => (by cases h), fun h => ?_⟩⟩
   have := h i hlt (by omega)
   rw [hah] at this
   cases this
  | false =>
   rw [hah] at ha
   refine ⟨b, Ev.bind ha (Ev.neg (by simp) hb), hbi.trans ⟨fun h j hj hji => ?_, fun h j hj hji => h j hj (by omega)⟩⟩
   rcases Nat.lt_or_ge j i with h1 | h1
   ·exact h j hj h1
   ·obtain rfl : j = i := by omega
    exact hah
theorem sortedE_ev (asc : Bool) (l : List Ent) (hl : ∀ x ∈ l, okE x) : ∃ b, Ev (fun k => entry_Sorted.f k asc l) b ∧ (b = true ↔ ∀ (j : Nat) (h : j + 1 < l.length), ahE asc l[j + 1] l[j] = false) := by
 obtain ⟨b, hb, hbi⟩ := sortedE_loop asc l hl (l.length - 1) (by omega)
 exact ⟨b, hb, hbi.trans ⟨fun h j hj => h j hj (by omega), fun h j hj _ => h j hj⟩⟩
/-! ### what is drawn -/
theorem tag_own : ∀ k : Fin 256, (match archivistlaw16_Tag_tag.f ByteArray.empty ByteArray.empty true (k.val : Int) with | some p => nameP (by_ p.1) && decide (p.2.size ≤ 3) | none => false) = true := by decide +kernel
theorem tag_ownf (n v : ByteArray) (K : Int) (h0 : 0 ≤ K) (h1 : K < 256) : ∃ p : ByteArray × ByteArray, archivistlaw16_Tag_tag.f n v true K = some p ∧ nameP (by_ p.1) = true ∧ p.2.size ≤ 3 := by
 obtain ⟨m, rfl⟩ := Int.eq_ofNat_of_zero_le h0
 have h := tag_own ⟨m, by omega⟩
 have e : archivistlaw16_Tag_tag.f n v true (m : Int) = archivistlaw16_Tag_tag.f ByteArray.empty ByteArray.empty true (m : Int) := rfl
 rw [e]
 dsimp only at h
 split at h
 ·rename_i p hp
  rw [Bool.and_eq_true, decide_eq_true_eq] at h
  exact ⟨p, hp, h.1, h.2⟩
 ·cases h
theorem few2_loop (x : List Tg) (hg : ∀ y ∈ x, 0 ≤ y.f2 ∧ y.f2 < 256) : ∀ (d i : Nat) (p : List Lab), 2 - i = d → i ≤ 2 → p.length ≤ i → (∀ q ∈ p, q.f1.size ≤ 3) →
  ∃ L : List Lab, L.length ≤ 2 ∧ (∀ q ∈ L, q.f1.size ≤ 3) ∧ Ev (fun k => archivistlaw16_few2.l0 k x p (i : Int)) (ofP [] L) := by
 have fin : ∀ (p : List Lab), p.length ≤ 2 → Ev (fun k => (label_Of.f k p).bind fun t => some t) (ofP [] p) := fun p hp => Ev.bind (of_ev p (by omega)) (Ev.now _)
 intro d
 induction d with
 | zero =>
  intro i p hd hi hp hq
  refine ⟨p, by omega, hq, Ev.step (fun _ => rfl) ?_⟩
  simp only [archivistlaw16_few2.l0]
  by_cases h : (i : Int) < (x.length : Int)
  ·exact Ev.pos h (Ev.neg (by omega) (fin p (by omega)))
  ·exact Ev.neg h (fin p (by omega))
 | succ d ih =>
  intro i p hd hi hp hq
  by_cases h : i < x.length
  ·have hy := hg x[i] (List.getElem_mem h)
   obtain ⟨t, ht, htn, htv⟩ := tag_ownf x[i].f0.f0 x[i].f0.f1 x[i].f2 hy.1 hy.2
   obtain ⟨L, h1, h2, h3⟩ := ih (i + 1) (p ++ [⟨t.1, t.2⟩]) (by omega) (by omega) (by rw [List.length_append]; simp; omega) (fun q hq2 => by
    rcases List.mem_append.1 hq2 with hq2 | hq2
    ·exact hq q hq2
    ·rw [List.mem_singleton] at hq2
     subst hq2
     exact htv)
   refine ⟨L, h1, h2, Ev.step (fun _ => rfl) ?_⟩
   simp only [archivistlaw16_few2.l0]
   rw [rdTag x i h, ht, w1 i (by omega)]
   exact Ev.pos (by omega) (Ev.pos (by omega) (Ev.pos (by omega) (Ev.one (Ev.pos (by omega) h3))))
  ·refine ⟨p, by omega, hq, Ev.step (fun _ => rfl) ?_⟩
   simp only [archivistlaw16_few2.l0]
   exact Ev.neg (by omega) (fin p (by omega))
theorem few2_ev (x : List Tg) (hg : ∀ y ∈ x, 0 ≤ y.f2 ∧ y.f2 < 256) : ∃ L : List Lab, L.length ≤ 2 ∧ (∀ q ∈ L, q.f1.size ≤ 3) ∧ Ev (fun k => archivistlaw16_few2.f k x) (ofP [] L) :=
 few2_loop x hg 2 0 [] rfl (Nat.zero_le _) (Nat.le_refl _) (fun q hq => by simp at hq)
abbrev Itm := S30
def gI (x : Itm) : Prop := in64 x.f0.f0 ∧ x.f0.f1.length ≤ 4398046511104 ∧ (-128 ≤ x.f2 ∧ x.f2 ≤ 127) ∧ (∀ y ∈ x.f3, 0 ≤ y.f2 ∧ y.f2 < 256) ∧ 0 ≤ x.f4 ∧ x.f4 < 256
def lineQ : List ByteArray := [⟨#[97]⟩, ⟨#[98]⟩, ⟨#[110, 61, 55]⟩, ⟨#[108, 118, 108, 61, 98, 32, 110, 61, 51]⟩, ⟨#[120, 49]⟩, ⟨#[]⟩, ⟨#[100, 117, 114, 61, 53, 109]⟩, ⟨#[101, 114, 114, 111, 114, 58, 32, 97]⟩]
theorem lineQ_ok : ∀ m : Fin 8, (rdOf ByteArray.empty lineQ (m.val : Int)).size ≤ 9 := by decide +kernel
/-- an entry that is drawn of few parts -/
def smE (e : Ent) : Prop := in64 e.f0 ∧ (∃ L : List Lab, L.length ≤ 2 ∧ (∀ q ∈ L, q.f1.size ≤ 3) ∧ e.f1 = ofP [] L) ∧ e.f2.size ≤ 9
theorem itemOwn_ev (a : Int) (l : List Lab) (s : ByteArray) (t : Int) (x : List Tg) (n : Int) (ht : -128 ≤ t ∧ t ≤ 127) (hx : ∀ y ∈ x, 0 ≤ y.f2 ∧ y.f2 < 256) (h0 : 0 ≤ n) (h1 : n < 256) : ∃ e : Ent, smE e ∧ Ev (fun k => archivistlaw16_Item_item.f k a l s true t x n) (e.f0, e.f1, e.f2) := by
 obtain ⟨m, rfl⟩ := Int.eq_ofNat_of_zero_le h0
 obtain ⟨L, hL, hv, hf⟩ := few2_ev x hx
 have em : Int.tmod (m : Int) 8 = ((m % 8 : Nat) : Int) := rfl
 have hm := Nat.mod_lt m (show 8 > 0 by decide)
 have hln := lineQ_ok ⟨m % 8, hm⟩
 have hts : -11 ≤ Int.tmod t 12 ∧ Int.tmod t 12 ≤ 11 := by
  have h := Int.tmod_lt_of_pos t (show (0 : Int) < 12 by decide)
  have h2 : -12 < Int.tmod t 12 := Int.lt_tmod_of_pos t (by decide)
  omega
 refine ⟨⟨wrap64 (Int.tmod t 12), ofP [] L, rdOf ByteArray.empty lineQ ((m % 8 : Nat) : Int)⟩, ⟨in64_wrap _, ⟨L, hL, hv, rfl⟩, hln⟩, ?_⟩
 unfold archivistlaw16_Item_item.f
 have hlen : lineQ.length = 8 := rfl
 refine Ev.pos rfl (Ev.bind hf (Ev.one ?_))
 rw [em]
 exact Ev.pos (by omega) (Ev.pos (by show _ < ((lineQ.length : Nat) : Int); omega) (Ev.now _))
theorem smE_ok {e : Ent} (h : smE e) : okE e := by
 obtain ⟨_, ⟨L, hL, _, he⟩, _⟩ := h
 have := of_len L
 unfold okE
 rw [he]
 omega
theorem item_ev (x : Itm) (h : gI x) : ∃ e : Ent, in64 e.f0 ∧ okE e ∧ (x.f1 = true → smE e) ∧ Ev (fun k => archivistlaw16_Item_item.f k x.f0.f0 x.f0.f1 x.f0.f2 x.f1 x.f2 x.f3 x.f4) (e.f0, e.f1, e.f2) := by
 obtain ⟨h1, h2, h3, h4, h5, h6⟩ := h
 cases hx : x.f1 with
 | true =>
  obtain ⟨e, he, hev⟩ := itemOwn_ev x.f0.f0 x.f0.f1 x.f0.f2 x.f2 x.f3 x.f4 h3 h4 h5 h6
  exact ⟨e, he.1, smE_ok he, fun _ => he, hev⟩
 | false =>
  refine ⟨x.f0, h1, h2, (fun h => by cases h), ?_⟩
  unfold archivistlaw16_Item_item.f
  exact Ev.neg (by simp) (Ev.now _)
end Go.Proofs.Ytaehlbbjbeibfaa.B
end
