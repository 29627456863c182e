/-
  What spaces behind a text change of its words, for the seat Ytifcnblgpnfehaa.
-/
import Derived.Test.YtifcnblgpnfehaaV
set_option linter.unusedVariables false
set_option linter.unusedSimpArgs false
namespace Go.Proofs.Ytifcnblgpnfehaa.B
open Go.RowKit Go.Proofs.Ytifcnblgpnfehaa.X Go.Proofs.YtifcnblgpnfehaaW.PrintWords Go.Proofs.YtifcnblgpnfehaaW.PrintLast

/-- nothing, or something that begins with a space -/
def SpHead : List UInt8 → Prop
  | [] => True
  | c :: _ => spC c = true
theorem pfx_sp : ∀ (o t r : List UInt8), (∀ c ∈ o, spC c = false) → SpHead r → pfxP o (t ++ r) = pfxP o t
  | [], t, r, _, _ => by simp [pfxP]
  | x :: o, [], [], _, _ => rfl
  | x :: o, [], c :: r, ho, hr => by
    have h1 := ho x (by simp)
    have h2 : spC c = true := hr
    have : ¬ c = x := fun h => by rw [h, h1] at h2; cases h2
    simp [pfxP, this]
  | x :: o, y :: t, r, ho, hr => by
    have ih := pfx_sp o t r (fun c hc => ho c (by simp [hc])) hr
    simp only [pfxP, List.cons_append, List.length_cons, List.take_succ_cons, List.cons_beq_cons] at ih ⊢
    rw [ih]
theorem find_same {α : Type} {p q : α → Bool} : ∀ (l : List α), (∀ x ∈ l, p x = q x) → l.find? p = l.find? q
  | [], _ => rfl
  | x :: l, h => by
    rw [List.find?_cons, List.find?_cons, h x (by simp), find_same l (fun y hy => h y (by simp [hy]))]
theorem op_sp (t r : List UInt8) (hr : SpHead r) : opP (t ++ r) = opP t :=
  find_same _ fun o ho => pfx_sp o t r (by have : ∀ o ∈ opsP, ∀ c ∈ o, spC c = false := by decide
                                           exact this o ho) hr
theorem takeWhile_sp {p : UInt8 → Bool} (hp : ∀ c, spC c = true → p c = false) : ∀ (t r : List UInt8), SpHead r → (t ++ r).takeWhile p = t.takeWhile p
  | [], [], _ => rfl
  | [], c :: r, hr => by simp [hp c hr]
  | y :: t, r, hr => by
    rw [List.cons_append, List.takeWhile_cons, List.takeWhile_cons, takeWhile_sp hp t r hr]
theorem sp_not (p : UInt8 → Bool) (h : ∀ n : Fin 256, spC (UInt8.ofNat n.val) = true → p (UInt8.ofNat n.val) = false) (c : UInt8) (hc : spC c = true) : p c = false := by
  have := h ⟨c.toNat, c.toNat_lt⟩
  simp only [UInt8.ofNat_toNat] at this
  exact this hc
theorem name_sp : ∀ c, spC c = true → nameC c = false := sp_not _ (by decide +kernel)
theorem val_sp : ∀ c, spC c = true → valC c = false := sp_not _ (by decide +kernel)
theorem dig_sp : ∀ c, spC c = true → digC c = false := sp_not _ (by decide +kernel)
theorem hex_sp (c : UInt8) (hc : spC c = true) : hexv c = -1 := by
  have := sp_not (fun c => decide (hexv c ≠ -1)) (by decide +kernel) c hc
  simpa using this

/-! ### a text in quotes, with something behind it -/
theorem esc_more {l : List UInt8} {b : UInt8} {n : Nat} (r : List UInt8) (h : escP l = some (b, n)) : escP (l ++ r) = some (b, n) := by
  match l, h with
  | [], h => simp [escP] at h
  | [c], h =>
    simp only [escP] at h
    simp only [List.cons_append, List.nil_append, escP]
    repeat' split at h
    all_goals first
      | (cases h; done)
      | simp_all
  | [c, d], h =>
    simp only [escP] at h
    simp only [List.cons_append, List.nil_append, escP]
    repeat' split at h
    all_goals first
      | (cases h; done)
      | simp_all
  | c :: d :: e :: l, h => exact h
theorem dec_more {l : List UInt8} {b : UInt8} {n : Nat} (r : List UInt8) (h : decP l = some (b, n)) : decP (l ++ r) = some (b, n) := by
  match l, h with
  | [], h => simp [decP] at h
  | c :: l, h =>
    simp only [List.cons_append, decP] at h ⊢
    by_cases c1 : c.toNat = 92
    · rw [if_pos c1] at h ⊢
      obtain ⟨⟨b2, n2⟩, h2, h3⟩ := Option.map_eq_some_iff.1 h
      rw [esc_more r h2]
      exact congrArg some h3
    · rw [if_neg c1] at h ⊢
      exact h
theorem unq_more : ∀ (d : Nat) (l : List UInt8) (t : List UInt8) (n : Nat) (r : List UInt8), l.length = d → unqP l = some (t, n) → unqP (l ++ r) = some (t, n) := by
  intro d
  induction d using Nat.strongRecOn with
  | _ d ih =>
    intro l t n r hd h
    match l, hd, h with
    | [], _, h => simp [unqP] at h
    | c :: l, hd, h =>
      rw [unqP] at h
      rw [List.cons_append, unqP]
      by_cases c1 : c.toNat = 34
      · rw [if_pos c1] at h ⊢
        exact h
      · rw [if_neg c1] at h ⊢
        cases h2 : decP (c :: l) with
        | none => rw [h2] at h; simp at h
        | some q =>
          obtain ⟨b, m⟩ := q
          rw [h2] at h
          have h3 := dec_more r h2
          rw [List.cons_append] at h3
          rw [h3]
          have hm := decP_len h2
          obtain ⟨⟨t2, n2⟩, h4, h5⟩ := Option.map_eq_some_iff.1 h
          rw [List.length_cons] at hd hm
          have h6 := ih (l.drop (m - 1)).length (by rw [List.length_drop]; omega) _ _ _ r rfl h4
          rw [← List.drop_append_of_le_length (by omega)] at h6
          show Option.map _ (unqP ((l ++ r).drop (m - 1))) = _
          rw [h6]
          exact congrArg some h5
theorem get_more {l : List UInt8} {t : List UInt8} {n : Nat} (r : List UInt8) (h : getP l = some (t, n)) : getP (l ++ r) = some (t, n) := by
  match l, h with
  | [], h => simp [getP] at h
  | c :: l, h =>
    simp only [List.cons_append, getP] at h ⊢
    by_cases c1 : c.toNat = 34
    · rw [if_pos c1] at h ⊢
      obtain ⟨⟨b2, n2⟩, h2, h3⟩ := Option.map_eq_some_iff.1 h
      rw [unq_more _ _ _ _ r rfl h2]
      exact congrArg some h3
    · rw [if_neg c1] at h
      cases h
theorem sp_ne (c : UInt8) (h : spC c = true) : c.toNat ≠ 34 ∧ c.toNat ≠ 92 ∧ c.toNat ≠ 110 ∧ c.toNat ≠ 116 ∧ c.toNat ≠ 120 := by
  simp only [spC, Bool.or_eq_true, beq_iff_eq] at h
  omega
theorem esc_none {l r : List UInt8} (hr : ∀ c ∈ r, spC c = true) (h : escP l = none) : escP (l ++ r) = none := by
  match l, r, hr, h with
  | [], [], _, _ => rfl
  | [], c :: r, hr, _ =>
    obtain ⟨h1, h2, h3, h4, h5⟩ := sp_ne c (hr c (by simp))
    simp only [List.nil_append, escP, if_neg h1, if_neg h2, if_neg h3, if_neg h4, h5, false_and, if_false]
    split <;> rfl
  | [c], [], _, h => exact h
  | [c], [d], _, h => 
    simp only [List.cons_append, List.nil_append, escP] at h ⊢
    exact h
  | [c], d :: e :: r, hr, h =>
    have h1 := hex_sp d (hr d (by simp))
    simp only [List.cons_append, List.nil_append, escP] at h ⊢
    rw [h1]
    simpa using h
  | [c, d], [], _, h => exact h
  | [c, d], e :: r, hr, h =>
    have h1 := hex_sp e (hr e (by simp))
    simp only [List.cons_append, List.nil_append, escP] at h ⊢
    rw [h1]
    repeat' split at h
    all_goals first
      | (cases h; done)
      | simp_all
  | c :: d :: e :: l, r, _, h => exact h
theorem dec_none {c : UInt8} {l r : List UInt8} (hr : ∀ c ∈ r, spC c = true) (h : decP (c :: l) = none) : decP (c :: (l ++ r)) = none := by
  simp only [decP] at h ⊢
  by_cases c1 : c.toNat = 92
  · rw [if_pos c1] at h ⊢
    rw [esc_none hr (by simpa using h)]
    rfl
  · rw [if_neg c1] at h ⊢
    exact h
theorem unq_sps : ∀ (r : List UInt8), (∀ c ∈ r, spC c = true) → unqP r = none
  | [], _ => by rw [unqP]
  | c :: r, hr => by
    obtain ⟨h1, h2, _⟩ := sp_ne c (hr c (by simp))
    have ih := unq_sps r fun d hd => hr d (by simp [hd])
    rw [unqP, if_neg h1]
    simp only [decP, if_neg h2]
    split
    · rfl
    · rename_i b n hd
      split at hd
      · cases hd
      · simp only [Option.some.injEq, Prod.mk.injEq] at hd
        obtain ⟨_, rfl⟩ := hd
        simp [ih]
theorem unq_none : ∀ (d : Nat) (l r : List UInt8), l.length = d → (∀ c ∈ r, spC c = true) → unqP l = none → unqP (l ++ r) = none := by
  intro d
  induction d using Nat.strongRecOn with
  | _ d ih =>
    intro l r hd hr h
    match l, hd, h with
    | [], _, h => exact unq_sps r hr
    | c :: l, hd, h =>
      rw [unqP] at h
      rw [List.cons_append, unqP]
      by_cases c1 : c.toNat = 34
      · rw [if_pos c1] at h
        cases h
      · rw [if_neg c1] at h ⊢
        cases h2 : decP (c :: l) with
        | none => rw [dec_none hr h2]
        | some q =>
          obtain ⟨b, m⟩ := q
          rw [h2] at h
          have h3 := dec_more r h2
          rw [List.cons_append] at h3
          rw [h3]
          have hm := decP_len h2
          rw [List.length_cons] at hd hm
          have h6 := ih (l.drop (m - 1)).length (by rw [List.length_drop]; omega) _ r rfl hr (by simpa using h)
          rw [← List.drop_append_of_le_length (by omega)] at h6
          show Option.map _ (unqP ((l ++ r).drop (m - 1))) = _
          rw [h6]
          rfl
theorem get_none {c : UInt8} {l r : List UInt8} (hr : ∀ c ∈ r, spC c = true) (h : getP (c :: l) = none) : getP (c :: l ++ r) = none := by
  simp only [List.cons_append, getP] at h ⊢
  by_cases c1 : c.toNat = 34
  · rw [if_pos c1] at h ⊢
    rw [unq_none _ l r rfl hr (by simpa using h)]
    rfl
  · rw [if_neg c1]

/-! ### a word, with spaces behind it -/
theorem word_sp {c : UInt8} {l r : List UInt8} (hr : SpHead r) (hg : getP (c :: l ++ r) = getP (c :: l)) : wordP (c :: l ++ r) = wordP (c :: l) := by
  unfold wordP
  rw [op_sp _ _ hr, hg]
  cases opP (c :: l) with
  | some o => rfl
  | none =>
    cases getP (c :: l) with
    | some q => rfl
    | none =>
      have e1 : (c :: (l ++ r)).takeWhile nameC = (c :: l).takeWhile nameC := takeWhile_sp name_sp (c :: l) r hr
      have e2 : (c :: (l ++ r)).takeWhile valC = (c :: l).takeWhile valC := takeWhile_sp val_sp (c :: l) r hr
      have e3 : (l ++ r).takeWhile valC = l.takeWhile valC := takeWhile_sp val_sp l r hr
      simp only [List.cons_append]
      rw [e1, e2]
      split
      · rfl
      · split
        · match l, r, hr, e3 with
          | [], [], _, _ => rfl
          | [], d :: r, hr, _ => simp [dig_sp d hr]
          | d :: l, r, _, e3 => 
            simp only [List.cons_append] at e3 ⊢
            rw [e3]
        · rfl
theorem word_more {t r : List UInt8} {w : Int × List UInt8 × Nat} (hr : SpHead r) (h : wordP t = some w) (hu : getP t = none → getP (t ++ r) = none) : wordP (t ++ r) = some w := by
  match t, h with
  | [], h =>
    have h0 : wordP [] = none := by decide +kernel
    rw [h0] at h
    cases h
  | c :: l, h =>
    rw [word_sp hr ?_, h]
    cases hg : getP (c :: l) with
    | none => exact hu hg
    | some q => exact get_more r hg
theorem sps_head {r : List UInt8} (hr : ∀ c ∈ r, spC c = true) : SpHead r := by
  cases r with
  | nil => trivial
  | cons c r => exact hr c (by simp)
theorem word_sps {c : UInt8} {l r : List UInt8} (hr : ∀ c ∈ r, spC c = true) : wordP (c :: l ++ r) = wordP (c :: l) := by
  refine word_sp (sps_head hr) ?_
  cases hg : getP (c :: l) with
  | none => exact get_none hr hg
  | some q => exact get_more r hg

/-! ### all words of a text, with spaces around it -/
def shT (n : Nat) (x : S33) : S33 := ⟨x.f0, x.f1, x.f2 + n⟩
theorem allP_sps : ∀ (d : Nat) (r : List UInt8) (a : Nat) (l : List S33), r.length ≤ d → (∀ c ∈ r, spC c = true) → allP d r a l = (l, ((a + r.length : Nat) : Int), 0)
  | 0, [], a, l, _, _ => rfl
  | 0, _ :: _, a, l, h, _ => by simp at h
  | d + 1, [], a, l, _, _ => rfl
  | d + 1, c :: r, a, l, h, hr => by
    rw [List.length_cons] at h ⊢
    rw [allP, if_pos (hr c (by simp)), allP_sps d r (a + 1) l (by omega) (fun x hx => hr x (by simp [hx])), show a + 1 + r.length = a + (r.length + 1) by omega]
theorem allP_skip : ∀ (d : Nat) (r t : List UInt8) (a : Nat) (l : List S33), (∀ c ∈ r, spC c = true) → allP (d + r.length) (r ++ t) a l = allP d t (a + r.length) l
  | d, [], t, a, l, _ => rfl
  | d, c :: r, t, a, l, hr => by
    rw [List.length_cons, List.cons_append, ← Nat.add_assoc, allP, if_pos (hr c (by simp)), allP_skip d r t (a + 1) l (fun x hx => hr x (by simp [hx])), show a + 1 + r.length = a + (r.length + 1) by omega]
theorem allP_fuel : ∀ (d d' : Nat) (t : List UInt8) (a : Nat) (l : List S33), t.length ≤ d → t.length ≤ d' → allP d t a l = allP d' t a l
  | 0, 0, _, _, _, _, _ => rfl
  | 0, _ + 1, [], _, _, _, _ => rfl
  | _ + 1, 0, [], _, _, _, _ => rfl
  | _ + 1, _ + 1, [], _, _, _, _ => rfl
  | 0, _, _ :: _, _, _, h, _ => by simp at h
  | _ + 1, 0, _ :: _, _, _, _, h => by simp at h
  | d + 1, d' + 1, c :: r, a, l, h, h' => by
    rw [List.length_cons] at h h'
    simp only [allP]
    by_cases c1 : spC c = true
    · rw [if_pos c1, if_pos c1]
      exact allP_fuel d d' r _ _ (by omega) (by omega)
    · rw [if_neg c1, if_neg c1]
      cases hp : wordP (c :: r) with
      | none => rfl
      | some w =>
        obtain ⟨k, x, n⟩ := w
        have hn := wordP_len hp
        have e : ((c :: r).drop n).length = r.length + 1 - n := by rw [List.length_drop, List.length_cons]
        exact allP_fuel d d' _ _ _ (by rw [e]; omega) (by rw [e]; omega)
/-- begun later, it tells the same, but for the places -/
theorem allP_shift (n : Nat) : ∀ (d : Nat) (t : List UInt8) (a : Nat) (l : List S33),
    allP d t (a + n) (l.map (shT n)) = ((allP d t a l).1.map (shT n), (allP d t a l).2.1 + n, (allP d t a l).2.2)
  | 0, t, a, l => by simp [allP]
  | d + 1, [], a, l => by simp [allP]
  | d + 1, c :: r, a, l => by
    simp only [allP]
    by_cases c1 : spC c = true
    · rw [if_pos c1, if_pos c1, show a + n + 1 = a + 1 + n by omega]
      exact allP_shift n d r (a + 1) l
    · rw [if_neg c1, if_neg c1]
      cases hp : wordP (c :: r) with
      | none => simp
      | some w =>
        obtain ⟨k, x, m⟩ := w
        have ih := allP_shift n d ((c :: r).drop m) (a + m) (l ++ [⟨k, ⟨x.toArray⟩, (a : Int)⟩])
        dsimp only
        rw [show a + n + m = a + m + n by omega]
        simp only [List.map_append, List.map_cons, List.map_nil, shT] at ih
        simpa using ih
def behI (n : Nat) (q : List S33 × Int × Int) : List S33 × Int × Int := if q.2.2 = 0 then (q.1, q.2.1 + n, 0) else q
theorem allP_behind : ∀ (d : Nat) (t r : List UInt8) (a : Nat) (l : List S33), t.length + r.length ≤ d → (∀ c ∈ r, spC c = true) →
    allP d (t ++ r) a l = behI r.length (allP d t a l)
  | 0, [], [], a, l, _, _ => by simp [allP, behI]
  | 0, [], _ :: _, a, l, h, _ => by simp at h
  | 0, _ :: _, _, a, l, h, _ => by simp at h
  | d + 1, [], r, a, l, h, hr => by
    rw [List.nil_append, allP_sps (d + 1) r a l (by simpa using h) hr]
    simp [allP, behI]
  | d + 1, c :: t, r, a, l, h, hr => by
    rw [List.length_cons] at h
    rw [List.cons_append]
    simp only [allP]
    by_cases c1 : spC c = true
    · rw [if_pos c1, if_pos c1]
      exact allP_behind d t r (a + 1) l (by omega) hr
    · rw [if_neg c1, if_neg c1]
      have hw : wordP (c :: (t ++ r)) = wordP (c :: t) := word_sps hr
      rw [hw]
      cases hp : wordP (c :: t) with
      | none => simp [behI]
      | some w =>
        obtain ⟨k, x, m⟩ := w
        have hm := wordP_len hp
        rw [List.length_cons] at hm
        have e : (c :: (t ++ r)).drop m = (c :: t).drop m ++ r := by
          rw [← List.cons_append, List.drop_append_of_le_length (by rw [List.length_cons]; omega)]
        have el : ((c :: t).drop m).length = t.length + 1 - m := by rw [List.length_drop, List.length_cons]
        simp only
        rw [e]
        exact allP_behind d _ r (a + m) _ (by rw [el]; omega) hr
end Go.Proofs.Ytifcnblgpnfehaa.B
