/-
  What a name is, for the seat Ytbkhgldinmabiaa.
-/
import Derived.Test.YtbkhgldinmabiaaX3
import Derived.Test.YtbkhgldinmabiaaQ
set_option linter.unusedVariables false
set_option linter.unusedSimpArgs false
namespace Go.Proofs.Ytbkhgldinmabiaa.B
open Go.RowKit Go.Proofs.Ytbkhgldinmabiaa.X Go.Proofs.YtbkhgldinmabiaaW.PrintWords Go.Proofs.YtbkhgldinmabiaaW.PrintLast

/-! ### names -/
def nameC (c : UInt8) : Bool := c.toNat == 95 || (48 ≤ c.toNat && c.toNat ≤ 57) || (65 ≤ c.toNat && c.toNat ≤ 90) || (97 ≤ c.toNat && c.toNat ≤ 122)
def nameP : List UInt8 → Bool
  | [] => false
  | c :: l => decide (l.length < 32) && !(48 ≤ c.toNat && c.toNat ≤ 57) && (c :: l).all nameC
theorem nameC_no (c : UInt8) : nameC c = false ↔ c.toNat ≠ 95 ∧ (c.toNat < 48 ∨ 57 < c.toNat) ∧ (c.toNat < 65 ∨ Go.bits .or .u8 (c.toNat : Int) 32 < 97 ∨ 122 < Go.bits .or .u8 (c.toNat : Int) 32) := by
  have h : ∀ n : Fin 256, nameC (UInt8.ofNat n.val) = false ↔ (UInt8.ofNat n.val).toNat ≠ 95 ∧ ((UInt8.ofNat n.val).toNat < 48 ∨ 57 < (UInt8.ofNat n.val).toNat) ∧ ((UInt8.ofNat n.val).toNat < 65 ∨ Go.bits .or .u8 ((UInt8.ofNat n.val).toNat : Int) 32 < 97 ∨ 122 < Go.bits .or .u8 ((UInt8.ofNat n.val).toNat : Int) 32) := by decide +kernel
  have := h ⟨c.toNat, c.toNat_lt⟩
  simpa using this
theorem name_loop (s : ByteArray) (hz : s.size ≤ 32) : ∀ (d i : Nat), s.size - i = d → i ≤ s.size →
    Ev (fun k => label_Name.l0 k (bytesOf s) ((bytesOf s).length : Int) (i : Int)) (((by_ s).drop i).all nameC)
  | 0, i, hd, hi => by
    have hb := by_length s
    have hl := bytesOf_length s
    refine Ev.step (fun _ => rfl) ?_
    simp only [label_Name.l0]
    rw [List.drop_of_length_le (by omega)]
    exact Ev.neg (by omega) (Ev.now _)
  | d + 1, i, hd, hi => by
    have hb := by_length s
    have hl := bytesOf_length s
    have hlt : i < (by_ s).length := by omega
    refine Ev.step (fun _ => rfl) ?_
    simp only [label_Name.l0]
    have ih := name_loop s hz d (i + 1) (by omega) (by omega)
    have hc : rd (bytesOf s) (i : Int) = (((by_ s)[i]).toNat : Int) := by rw [rd_bytesOf, bt_by s i hlt]
    rw [List.drop_eq_getElem_cons hlt, List.all_cons, w_succ i (by omega), hc]
    obtain ⟨c, hcc⟩ : ∃ c, (by_ s)[i] = c := ⟨_, rfl⟩
    rw [hcc]
    refine Ev.pos (by omega) (Ev.pos (by omega) (Ev.pos (by omega) ?_))
    by_cases hn : nameC c = true
    · rw [hn, Bool.true_and]
      have h2 : ¬ (c.toNat ≠ 95 ∧ (c.toNat < 48 ∨ 57 < c.toNat) ∧ (c.toNat < 65 ∨ Go.bits .or .u8 (c.toNat : Int) 32 < 97 ∨ 122 < Go.bits .or .u8 (c.toNat : Int) 32)) := fun h => by rw [(nameC_no c).mpr h] at hn; cases hn
      by_cases c1 : (c.toNat : Int) = 95
      · exact Ev.pos c1 ih
      refine Ev.neg c1 ?_
      by_cases c2 : (c.toNat : Int) < 48
      · refine Ev.pos c2 (Ev.neg (by omega) (Ev.neg (by omega) (Ev.neg (by omega) ih)))
      refine Ev.neg c2 ?_
      by_cases c3 : (c.toNat : Int) > 57
      · refine Ev.pos c3 (Ev.neg (by omega) (Ev.neg (by omega) (Ev.neg (by omega) ih)))
      · exact Ev.neg c3 ih
    · rw [Bool.not_eq_true] at hn
      obtain ⟨h1, h2, h3⟩ := (nameC_no c).mp hn
      rw [hn, Bool.false_and]
      refine Ev.neg (by omega) ?_
      by_cases c2 : (c.toNat : Int) < 48
      · refine Ev.pos c2 ?_
        by_cases c4 : (c.toNat : Int) < 65
        · exact Ev.pos c4 (Ev.now _)
        · omega
      refine Ev.neg c2 (Ev.pos (by omega) ?_)
      by_cases c4 : (c.toNat : Int) < 65
      · exact Ev.pos c4 (Ev.now _)
      refine Ev.neg c4 ?_
      by_cases c5 : Go.bits .or .u8 (c.toNat : Int) 32 < 97
      · exact Ev.pos c5 (Ev.now _)
      · exact Ev.neg c5 (Ev.pos (by omega) (Ev.now _))
theorem name_ev (s : ByteArray) : Ev (fun k => label_Name.f k s) (nameP (by_ s)) := by
  have hb := by_length s
  have hno : Ev (fun k => label_Name.j0 k s true) false := Ev.step (f := fun _ => some false) (fun _ => by simp [label_Name.j0]) (Ev.now _)
  unfold label_Name.f
  rw [toList_by]
  cases hs : by_ s with
  | nil => exact Ev.pos rfl hno
  | cons c l =>
    rw [hs] at hb
    simp only [List.length_cons] at hb
    have h0 : bt s 0 = (c.toNat : Int) := bt_at_ s 0 c (by rw [hs]; rfl)
    refine Ev.neg (by simp) ?_
    by_cases h32 : (s.size : Int) > 32
    · refine Ev.pos h32 ?_
      have e : nameP (c :: l) = false := by simp only [nameP]; rw [decide_eq_false (by omega)]; rfl
      rw [e]
      exact hno
    refine Ev.neg h32 (Ev.pos (by omega) ?_)
    have hyes : Ev (fun k => label_Name.j0 k s false) ((c :: l).all nameC) := by
      refine Ev.step (fun _ => rfl) ?_
      simp only [label_Name.j0]
      have h := name_loop s (by omega) s.size 0 rfl (by omega)
      rw [List.drop_zero, hs] at h
      exact Ev.neg (by simp) (Ev.pos (by omega) (Ev.one h))
    rw [h0]
    have e0 : decide (l.length < 32) = true := decide_eq_true (by omega)
    simp only [nameP, e0, Bool.true_and]
    by_cases c1 : (c.toNat : Int) ≥ 48
    · refine Ev.pos c1 ?_
      by_cases c2 : (c.toNat : Int) ≤ 57
      · rw [decide_eq_true c2, decide_eq_true (show 48 ≤ c.toNat by omega), decide_eq_true (show c.toNat ≤ 57 by omega)]
        exact hno
      · rw [decide_eq_false c2, decide_eq_false (show ¬ c.toNat ≤ 57 by omega), Bool.and_false, Bool.not_false, Bool.true_and]
        exact hyes
    · refine Ev.neg c1 ?_
      rw [decide_eq_false (show ¬ 48 ≤ c.toNat by omega), Bool.false_and, Bool.not_false, Bool.true_and]
      exact hyes
end Go.Proofs.Ytbkhgldinmabiaa.B
