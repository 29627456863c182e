/-
  The law of names, for the seat Ytbkhgldinmabiaa.
-/
import Derived.Test.YtbkhgldinmabiaaX30
import Derived.Test.YtbkhgldinmabiaaRwLabelNames
import Derived.Test.YtbkhgldinmabiaaN
import Derived.Test.YtbkhgldinmabiaaY
set_option linter.unusedVariables false
set_option linter.unusedSimpArgs false
namespace Go.Proofs.Ytbkhgldinmabiaa.Pure
open Go.RowKit Go.Proofs.Ytbkhgldinmabiaa.X Go.Proofs.Ytbkhgldinmabiaa.B Go.Proofs.YtbkhgldinmabiaaW.PrintWords Go.Proofs.YtbkhgldinmabiaaW.PrintLast

def midI (n : Int) : Prop := 97 ≤ n ∧ n ≤ 122 ∨ 65 ≤ n ∧ n ≤ 90
instance (n : Int) : Decidable (midI n) := inferInstanceAs (Decidable (_ ∨ _))
theorem names_1 (c : UInt8) : (midI (c.toNat : Int) → nameP [c] = true ∧ nameP [120, c] = true) ∧
    (¬ midI (c.toNat : Int) → nameP [c] = ((c.toNat : Int) == 95) ∧ ((c.toNat : Int) = 95 → nameP [120, c] = true) ∧ ((c.toNat : Int) ≠ 95 → (c.toNat : Int) ≥ 48 → nameP [120, c] = decide ((c.toNat : Int) ≤ 57)) ∧ ((c.toNat : Int) ≠ 95 → ¬ (c.toNat : Int) ≥ 48 → nameP [120, c] = false)) := by
  have h : ∀ n : Fin 256, (midI ((UInt8.ofNat n.val).toNat : Int) → nameP [UInt8.ofNat n.val] = true ∧ nameP [120, UInt8.ofNat n.val] = true) ∧
    (¬ midI ((UInt8.ofNat n.val).toNat : Int) → nameP [UInt8.ofNat n.val] = (((UInt8.ofNat n.val).toNat : Int) == 95) ∧ (((UInt8.ofNat n.val).toNat : Int) = 95 → nameP [120, UInt8.ofNat n.val] = true) ∧ (((UInt8.ofNat n.val).toNat : Int) ≠ 95 → ((UInt8.ofNat n.val).toNat : Int) ≥ 48 → nameP [120, UInt8.ofNat n.val] = decide (((UInt8.ofNat n.val).toNat : Int) ≤ 57)) ∧ (((UInt8.ofNat n.val).toNat : Int) ≠ 95 → ¬ ((UInt8.ofNat n.val).toNat : Int) ≥ 48 → nameP [120, UInt8.ofNat n.val] = false)) := by decide +kernel
  have := h ⟨c.toNat, c.toNat_lt⟩
  simpa only [UInt8.ofNat_toNat] using this
theorem names_c (c : UInt8) : (midI (c.toNat : Int) ∨ 48 ≤ (c.toNat : Int) ∧ (c.toNat : Int) ≤ 57 → nameC c = true) ∧ (¬ (midI (c.toNat : Int) ∨ 48 ≤ (c.toNat : Int) ∧ (c.toNat : Int) ≤ 57) → nameC c = ((c.toNat : Int) == 95)) := by
  have h : ∀ n : Fin 256, (midI ((UInt8.ofNat n.val).toNat : Int) ∨ 48 ≤ ((UInt8.ofNat n.val).toNat : Int) ∧ ((UInt8.ofNat n.val).toNat : Int) ≤ 57 → nameC (UInt8.ofNat n.val) = true) ∧ (¬ (midI ((UInt8.ofNat n.val).toNat : Int) ∨ 48 ≤ ((UInt8.ofNat n.val).toNat : Int) ∧ ((UInt8.ofNat n.val).toNat : Int) ≤ 57) → nameC (UInt8.ofNat n.val) = (((UInt8.ofNat n.val).toNat : Int) == 95)) := by decide +kernel
  have := h ⟨c.toNat, c.toNat_lt⟩
  simpa only [UInt8.ofNat_toNat] using this
theorem names_j4 (s : ByteArray) (c : UInt8) (want letter : Bool) (hw : want = nameP (by_ s)) (hl : midI (c.toNat : Int) ∧ letter = true ∨ ¬ midI (c.toNat : Int) ∧ letter = ((c.toNat : Int) == 95)) : Ev (fun k => archivistlaw06_LabelNames.j4 k s (c.toNat : Int) true want letter) true := by
  have n0 := name_ev s
  rw [← hw] at n0
  have n1 := name_ev (strOfNums [(c.toNat : Int)])
  have e1 : by_ (strOfNums [(c.toNat : Int)]) = [c] := by rw [by_nums]; simp
  rw [e1] at n1
  have n2 := name_ev (strOfNums [120, (c.toNat : Int)])
  have e2 : by_ (strOfNums [120, (c.toNat : Int)]) = [120, c] := by rw [by_nums]; simp
  rw [e2] at n2
  obtain ⟨hm, hn⟩ := names_1 c
  refine Ev.step (fun _ => rfl) ?_
  simp only [archivistlaw06_LabelNames.j4]
  refine Ev.pos (by trivial) (Ev.bind n0 (Ev.pos (beq_self_eq_true _) (Ev.bind n1 (Ev.pos ?_ (Ev.bind n2 ?_)))))
  · rcases hl with ⟨h, rfl⟩ | ⟨h, rfl⟩
    · rw [(hm h).1]
      rfl
    · rw [(hn h).1]
      exact beq_self_eq_true _
  · rcases hl with ⟨h, rfl⟩ | ⟨h, rfl⟩
    · refine Ev.pos rfl (Ev.ret ?_)
      rw [(hm h).2]
      rfl
    · obtain ⟨m1, m2, m3, m4⟩ := hn h
      by_cases h1 : (c.toNat : Int) = 95
      · refine Ev.pos (beq_iff_eq.2 h1) (Ev.ret ?_)
        rw [m2 h1]
        rfl
      · refine Ev.neg (fun e => h1 (beq_iff_eq.1 e)) ?_
        by_cases h2 : (c.toNat : Int) ≥ 48
        · refine Ev.pos h2 (Ev.ret ?_)
          rw [m3 h1 h2]
          exact beq_self_eq_true _
        · refine Ev.neg h2 (Ev.ret ?_)
          rw [m4 h1 h2]
          rfl
theorem names_end (s : ByteArray) (c : UInt8) (want : Bool) (i : Int) (hi : ¬ i < (s.size : Int)) (hw : want = nameP (by_ s)) : Ev (fun k => archivistlaw06_LabelNames.l1 k s (c.toNat : Int) true want i) true := by
  refine Ev.step (fun _ => rfl) ?_
  simp only [archivistlaw06_LabelNames.l1]
  refine Ev.neg hi ?_
  have yes : midI (c.toNat : Int) → _ := fun h => names_j4 s c want true hw (.inl ⟨h, rfl⟩)
  have no : ¬ midI (c.toNat : Int) → _ := fun h => names_j4 s c want _ hw (.inr ⟨h, rfl⟩)
  by_cases a1 : (c.toNat : Int) ≥ 97
  · refine Ev.pos a1 ?_
    by_cases a2 : (c.toNat : Int) ≤ 122
    · exact Ev.pos a2 (yes (.inl ⟨a1, a2⟩))
    · exact Ev.neg a2 (Ev.pos (by omega) (Ev.neg (by omega) (no (fun h => by rcases h with h | h <;> omega))))
  · refine Ev.neg a1 ?_
    by_cases a2 : (c.toNat : Int) ≥ 65
    · refine Ev.pos a2 ?_
      by_cases a3 : (c.toNat : Int) ≤ 90
      · exact Ev.pos a3 (yes (.inr ⟨a2, a3⟩))
      · exact Ev.neg a3 (no (fun h => by rcases h with h | h <;> omega))
    · exact Ev.neg a2 (no (fun h => by rcases h with h | h <;> omega))
theorem names_l1 (s : ByteArray) (hs : s.size ≤ 140737488351232) (c : UInt8) : ∀ (d i : Nat) (want : Bool), s.size - i = d → i ≤ s.size → (want && ((by_ s).drop i).all nameC) = nameP (by_ s) →
    Ev (fun k => archivistlaw06_LabelNames.l1 k s (c.toNat : Int) true want (i : Int)) true := by
  intro d
  induction d with
  | zero =>
    intro i want hd hi hw
    have hb := by_length s
    rw [List.drop_of_length_le (by omega)] at hw
    exact names_end s c want i (by omega) (by rw [← hw]; simp)
  | succ d ih =>
    intro i want hd hi hw
    have hb := by_length s
    have hlt : i < (by_ s).length := by omega
    have hc := bt_by s i hlt
    obtain ⟨q, hq⟩ : ∃ q, (by_ s)[i] = q := ⟨_, rfl⟩
    have hdr := List.drop_eq_getElem_cons hlt
    rw [hq] at hc hdr
    rw [hdr, List.all_cons] at hw
    refine Ev.step (fun _ => rfl) ?_
    simp only [archivistlaw06_LabelNames.l1]
    rw [w1 i (by omega), hc]
    refine Ev.pos (by omega) (Ev.pos (by omega) ?_)
    cases want with
    | false =>
      refine Ev.neg (by decide) (ih (i + 1) false (by omega) (by omega) ?_)
      rw [← hw, Bool.false_and, Bool.false_and]
    | true =>
      rw [Bool.true_and] at hw
      obtain ⟨h1, h2⟩ := names_c q
      have yes : midI (q.toNat : Int) ∨ 48 ≤ (q.toNat : Int) ∧ (q.toNat : Int) ≤ 57 → Ev (fun k => archivistlaw06_LabelNames.l1 k s (c.toNat : Int) true true ((i + 1 : Nat) : Int)) true := fun h => ih (i + 1) true (by omega) (by omega) (by rw [h1 h] at hw; exact hw)
      have no : ¬ (midI (q.toNat : Int) ∨ 48 ≤ (q.toNat : Int) ∧ (q.toNat : Int) ≤ 57) → Ev (fun k => archivistlaw06_LabelNames.l1 k s (c.toNat : Int) true ((q.toNat : Int) == 95) ((i + 1 : Nat) : Int)) true := fun h => ih (i + 1) _ (by omega) (by omega) (by rw [h2 h] at hw; exact hw)
      have nodig : ¬ midI (q.toNat : Int) → Ev (fun k => if (q.toNat : Int) ≥ 48 then (if (q.toNat : Int) ≤ 57 then (archivistlaw06_LabelNames.l1 k s (c.toNat : Int) true true ((i + 1 : Nat) : Int)) else (archivistlaw06_LabelNames.l1 k s (c.toNat : Int) true ((q.toNat : Int) == 95) ((i + 1 : Nat) : Int))) else (archivistlaw06_LabelNames.l1 k s (c.toNat : Int) true ((q.toNat : Int) == 95) ((i + 1 : Nat) : Int))) true := fun h => by
        by_cases b1 : (q.toNat : Int) ≥ 48
        · refine Ev.pos b1 ?_
          by_cases b2 : (q.toNat : Int) ≤ 57
          · exact Ev.pos b2 (yes (.inr ⟨b1, b2⟩))
          · exact Ev.neg b2 (no (fun e => e.elim h (fun e => b2 e.2)))
        · exact Ev.neg b1 (no (fun e => e.elim h (fun e => b1 e.1)))
      refine Ev.pos (by trivial) ?_
      by_cases a1 : (q.toNat : Int) ≥ 97
      · refine Ev.pos a1 ?_
        by_cases a2 : (q.toNat : Int) ≤ 122
        · exact Ev.pos a2 (yes (.inl (.inl ⟨a1, a2⟩)))
        · exact Ev.neg a2 (Ev.pos (by omega) (Ev.neg (by omega) (nodig (fun h => by rcases h with h | h <;> omega))))
      · refine Ev.neg a1 ?_
        by_cases a2 : (q.toNat : Int) ≥ 65
        · refine Ev.pos a2 ?_
          by_cases a3 : (q.toNat : Int) ≤ 90
          · exact Ev.pos a3 (yes (.inl (.inr ⟨a2, a3⟩)))
          · exact Ev.neg a3 (nodig (fun h => by rcases h with h | h <;> omega))
        · exact Ev.neg a2 (nodig (fun h => by rcases h with h | h <;> omega))
theorem names_j2 (s : ByteArray) (hs : s.size ≤ 140737488351232) (c : UInt8) (want : Bool) (hw : (want && (by_ s).all nameC) = nameP (by_ s)) : Ev (fun k => archivistlaw06_LabelNames.j2 k s (c.toNat : Int) true want) true := by
  refine Ev.step (fun _ => rfl) ?_
  simp only [archivistlaw06_LabelNames.j2]
  exact names_l1 s hs c s.size 0 want rfl (Nat.zero_le _) (by rw [List.drop_zero]; exact hw)
theorem names_j1 (s : ByteArray) (hs : s.size ≤ 140737488351232) (c : UInt8) : Ev (fun k => archivistlaw06_LabelNames.j1 k s (c.toNat : Int) true) true := by
  have hb := by_length s
  refine Ev.step (fun _ => rfl) ?_
  simp only [archivistlaw06_LabelNames.j1]
  cases hl : by_ s with
  | nil =>
    rw [hl] at hb
    simp at hb
    exact Ev.neg (by omega) (names_j2 s hs c false (by rw [hl]; rfl))
  | cons q l =>
    have h0 : bt s 0 = (q.toNat : Int) := bt_at_ s 0 q (by rw [hl]; rfl)
    rw [h0]
    have hb2 := hb
    rw [hl] at hb2
    simp only [List.length_cons] at hb2
    refine Ev.pos (by omega) ?_
    by_cases h32 : (s.size : Int) ≤ 32
    · refine Ev.pos h32 (Ev.pos (by omega) ?_)
      have e0 : decide (l.length < 32) = true := decide_eq_true (by omega)
      by_cases b1 : (q.toNat : Int) < 48
      · refine Ev.pos b1 (names_j2 s hs c true ?_)
        rw [hl, nameP, e0, decide_eq_false (show ¬ 48 ≤ q.toNat by omega)]
        simp
      · refine Ev.neg b1 (names_j2 s hs c _ ?_)
        rw [hl, nameP, e0]
        by_cases b2 : (q.toNat : Int) > 57
        · rw [decide_eq_true b2, decide_eq_false (show ¬ q.toNat ≤ 57 by omega)]
          simp
        · rw [decide_eq_false b2, decide_eq_true (show 48 ≤ q.toNat by omega), decide_eq_true (show q.toNat ≤ 57 by omega)]
          simp
    · refine Ev.neg h32 (names_j2 s hs c false ?_)
      rw [hl, nameP, decide_eq_false (show ¬ l.length < 32 by omega)]
      rfl
theorem names_l0 (l : List Int) (hl : l.length ≤ 140737488351232) (hw : ∀ x ∈ l, 0 ≤ x ∧ x ≤ 255) (c : UInt8) : ∀ (d i : Nat) (s : ByteArray), 40 - i = d → i ≤ l.length → i ≤ 40 → s.size = i + 1 →
    Ev (fun k => archivistlaw06_LabelNames.l0 k s l (c.toNat : Int) true (i : Int)) true
  | d, i, s, hd, hi, h40, hz => by
    have hend := names_j1 s (by omega) c
    refine Ev.step (fun _ => rfl) ?_
    simp only [archivistlaw06_LabelNames.l0]
    by_cases hlt : i < l.length
    · refine Ev.pos (by omega) ?_
      by_cases h2 : i < 40
      · match d, hd with
        | 0, hd => omega
        | d + 1, hd =>
          have hx := hw _ (List.getElem_mem (h := hlt))
          have hrd : rd l (i : Int) = l[i] := by simp [rd, hlt]
          have h0 : 0 ≤ Int.tmod l[i] 10 := Int.tmod_nonneg _ hx.1
          have h10 : Int.tmod l[i] 10 < 10 := Int.tmod_lt_of_pos _ (by omega)
          rw [w1 i (by omega), hrd]
          refine Ev.pos (by omega) (Ev.pos (by omega) (Ev.pos h0 (Ev.pos h10 (Ev.one (Ev.pos (by rw [size_nums]; simp; omega) ?_)))))
          exact names_l0 l hl hw c d (i + 1) _ (by omega) (by omega) (by omega) (by rw [ByteArray.size_append, size_nums, hz]; rfl)
      · exact Ev.neg (by omega) hend
    · exact Ev.neg (by omega) hend
theorem u8_all {l : List Int} (h : ∀ x ∈ l, (Lit.int .u8 x).wf = true) : ∀ x ∈ l, 0 ≤ x ∧ x ≤ 255 := fun x hx => by
  have := h x hx
  have h0 : IntKind.u8.min = 0 := by decide
  have h1 : IntKind.u8.max = 255 := by decide
  simp [Lit.wf] at this
  omega
theorem LabelNames : archivistlaw06_LabelNames.PureS := by
  intro a0 a1 l2 a3 hl h3 hs ht
  have hw := hl.2
  have h2 := ht.1
  obtain ⟨b0, b1⟩ := u8_all (l := [a3]) (by simpa using h3) a3 (by simp)
  obtain ⟨n, rfl⟩ := Int.eq_ofNat_of_zero_le b0
  obtain ⟨c, hc⟩ : ∃ c : UInt8, (n : Int) = (c.toNat : Int) := ⟨UInt8.ofNat n, by simp; omega⟩
  rw [hc]
  refine Ev.rounds ?_
  unfold archivistlaw06_LabelNames.f
  refine Ev.bind labelExamples_ev (Ev.pos (by trivial) ?_)
  by_cases h : a1 = true
  · exact Ev.pos h (names_l0 l2 (by omega) (u8_all hw) c 40 0 _ rfl (Nat.zero_le _) (by omega) rfl)
  · exact Ev.neg h (names_j1 a0 hs c)
end Go.Proofs.Ytbkhgldinmabiaa.Pure
