/-
  What the program puts in quotes, and that it is read back, for the seat Ytifcnblgpnfehaa.
-/
import Derived.Test.YtifcnblgpnfehaaX2
import Derived.Test.YtifcnblgpnfehaaU
set_option linter.unusedVariables false
set_option linter.unusedSimpArgs false
namespace Go.Proofs.Ytifcnblgpnfehaa.B
open Go.RowKit Go.Proofs.Ytifcnblgpnfehaa.X Go.Proofs.YtifcnblgpnfehaaW.PrintWords Go.Proofs.YtifcnblgpnfehaaW.PrintLast

/-- a text in quotes -/
def putP (t : List UInt8) : List UInt8 := 34 :: (t.flatMap oneP ++ [34])
theorem flat_len : ∀ t : List UInt8, t.length ≤ (t.flatMap oneP).length ∧ (t.flatMap oneP).length ≤ 4 * t.length
  | [] => by simp
  | b :: t => by
    have h := flat_len t
    have h2 := oneP_len b
    rw [List.flatMap_cons, List.length_append, List.length_cons]
    omega
theorem putP_len (t : List UInt8) : (putP t).length = (t.flatMap oneP).length + 2 := by simp [putP]
theorem unqP_step {c : UInt8} {l : List UInt8} {b : UInt8} {n : Nat} (hc : c.toNat ≠ 34) (h : decP (c :: l) = some (b, n)) (hn : 1 ≤ n) :
    unqP (c :: l) = (unqP ((c :: l).drop n)).map fun r => (b :: r.1, r.2 + n) := by
  obtain ⟨m, rfl⟩ : ∃ m, n = m + 1 := ⟨n - 1, by omega⟩
  rw [unqP, if_neg hc, h]
  simp only [Nat.add_sub_cancel, List.drop_succ_cons]
theorem unqP_put (r : List UInt8) : ∀ t : List UInt8, unqP (t.flatMap oneP ++ 34 :: r) = some (t, (t.flatMap oneP).length + 1)
  | [] => by
    rw [List.flatMap_nil, List.nil_append, unqP]
    rfl
  | b :: t => by
    have ih := unqP_put r t
    have hd := dec_one b (t.flatMap oneP ++ 34 :: r)
    have hh := head_one b
    have hl := (oneP_len b).1
    rw [List.flatMap_cons, List.append_assoc]
    obtain ⟨q, hq⟩ : ∃ q, t.flatMap oneP ++ 34 :: r = q := ⟨_, rfl⟩
    rw [hq] at hd ih ⊢
    cases ho : oneP b with
    | nil => rw [ho] at hl; simp at hl
    | cons c w =>
      rw [ho] at hd hh hl
      have hc : c.toNat ≠ 34 := fun e => hh (by rw [List.head?_cons]; exact congrArg some (UInt8.toNat_inj.1 e))
      rw [List.cons_append] at hd ⊢
      rw [unqP_step hc hd hl, ← List.cons_append, List.drop_left, ih]
      simp only [Option.map_some, List.length_append]
      congr 2
      omega
theorem getP_put (t r : List UInt8) : getP (putP t ++ r) = some (t, (putP t).length) := by
  rw [putP_len, putP, List.cons_append, getP, if_pos (by decide), List.append_assoc, List.singleton_append, unqP_put]
  rfl
/-! ### something behind -/
theorem unqR_more : ∀ (d : Nat) (l : List UInt8) (t : List UInt8) (n : Nat) (r : List UInt8), l.length = d → unqP l = some (t, n) → unqP (l ++ r) = some (t, n) := by
  intro d
  induction d using Nat.strongRecOn with
  | _ d ih =>
    intro l t n r hd h
    match l, hd, h with
    | [], _, h => simp [unqP] at h
    | c :: l, hd, h =>
      rw [unqP] at h
      rw [List.cons_append, unqP]
      by_cases c1 : c.toNat = 34
      · rw [if_pos c1] at h ⊢
        exact h
      · rw [if_neg c1] at h ⊢
        cases h2 : decP (c :: l) with
        | none => rw [h2] at h; simp at h
        | some q =>
          obtain ⟨b, m⟩ := q
          rw [h2] at h
          have h3 := decR_more r h2
          rw [List.cons_append] at h3
          rw [h3]
          have hm := decP_len h2
          obtain ⟨⟨t2, n2⟩, h4, h5⟩ := Option.map_eq_some_iff.1 h
          rw [List.length_cons] at hd hm
          have h6 := ih (l.drop (m - 1)).length (by rw [List.length_drop]; omega) _ _ _ r rfl h4
          rw [← List.drop_append_of_le_length (by omega)] at h6
          show Option.map _ (unqP ((l ++ r).drop (m - 1))) = _
          rw [h6]
          exact congrArg some h5
theorem getR_more {l : List UInt8} {t : List UInt8} {n : Nat} (r : List UInt8) (h : getP l = some (t, n)) : getP (l ++ r) = some (t, n) := by
  match l, h with
  | [], h => simp [getP] at h
  | c :: l, h =>
    simp only [List.cons_append, getP] at h ⊢
    by_cases c1 : c.toNat = 34
    · rw [if_pos c1] at h ⊢
      obtain ⟨⟨b2, n2⟩, h2, h3⟩ := Option.map_eq_some_iff.1 h
      rw [unqR_more _ _ _ _ r rfl h2]
      exact congrArg some h3
    · rw [if_neg c1] at h
      cases h
theorem getP_len' {t x : List UInt8} {n : Nat} (h : getP t = some (x, n)) : 2 ≤ n ∧ n ≤ t.length := by
  match t, h with
  | [], h => simp [getP] at h
  | c :: l, h =>
    simp only [getP] at h
    split at h
    · obtain ⟨⟨y, m⟩, h1, h2⟩ := Option.map_eq_some_iff.1 h
      have := unqP_len _ l y m rfl h1
      simp at h2
      obtain ⟨_, rfl⟩ := h2
      simp
      omega
    · simp at h
/-! ### the program's Put -/
theorem hex_and (b : UInt8) : bt (⟨#[48, 49, 50, 51, 52, 53, 54, 55, 56, 57, 97, 98, 99, 100, 101, 102]⟩ : ByteArray) ((b.toNat : Int) / 16) = ((hexd.getD (b.toNat / 16) 0).toNat : Int) ∧
    bt (⟨#[48, 49, 50, 51, 52, 53, 54, 55, 56, 57, 97, 98, 99, 100, 101, 102]⟩ : ByteArray) (Go.bits .and .u8 (b.toNat : Int) 15) = ((hexd.getD (b.toNat % 16) 0).toNat : Int) ∧
    0 ≤ (b.toNat : Int) / 16 ∧ (b.toNat : Int) / 16 < 16 ∧ 0 ≤ Go.bits .and .u8 (b.toNat : Int) 15 ∧ Go.bits .and .u8 (b.toNat : Int) 15 < 16 := by
  have h : ∀ n : Fin 256, bt (⟨#[48, 49, 50, 51, 52, 53, 54, 55, 56, 57, 97, 98, 99, 100, 101, 102]⟩ : ByteArray) (((UInt8.ofNat n.val).toNat : Int) / 16) = ((hexd.getD ((UInt8.ofNat n.val).toNat / 16) 0).toNat : Int) ∧
    bt (⟨#[48, 49, 50, 51, 52, 53, 54, 55, 56, 57, 97, 98, 99, 100, 101, 102]⟩ : ByteArray) (Go.bits .and .u8 ((UInt8.ofNat n.val).toNat : Int) 15) = ((hexd.getD ((UInt8.ofNat n.val).toNat % 16) 0).toNat : Int) ∧
    0 ≤ ((UInt8.ofNat n.val).toNat : Int) / 16 ∧ ((UInt8.ofNat n.val).toNat : Int) / 16 < 16 ∧ 0 ≤ Go.bits .and .u8 ((UInt8.ofNat n.val).toNat : Int) 15 ∧ Go.bits .and .u8 ((UInt8.ofNat n.val).toNat : Int) 15 < 16 := by decide +kernel
  have := h ⟨b.toNat, b.toNat_lt⟩
  simpa only [UInt8.ofNat_toNat] using this
theorem put_one (b : UInt8) (acc : List UInt8) (ys : List Int) (n i : Int) (R : ByteArray) (hs : SmallN (acc.length + 4)) (e1 : wrap64 (i + 1) = i + 1)
    (h : Ev (fun k => quote_Put.l0 k (up_ (acc ++ oneP b)) ys n (i + 1)) R) :
    Ev (fun k => if (b.toNat : Int) = 34 then quote_Put.j1 k (up_ acc) (b.toNat : Int) ys n i true else quote_Put.j1 k (up_ acc) (b.toNat : Int) ys n i ((b.toNat : Int) == 92)) R := by
  have up2 : ∀ w : List UInt8, up_ acc ++ up_ w = up_ (acc ++ w) := fun w => by simp [up_]
  have sm : ∀ w : List Int, w.length ≤ 4 → (up_ acc).length + w.length < 140737488355328 := fun w hw => by
    have h0 : (up_ acc).length = acc.length := by rw [up_, List.length_map]
    rw [h0]
    exact Nat.lt_of_le_of_lt (Nat.add_le_add_left hw _) hs.out
  have go : ∀ w : List Int, w.length ≤ 4 → up_ (oneP b) = w → Ev (fun k => (some w).bind fun y => (if (up_ acc).length + y.length < 140737488355328 then (quote_Put.l0 k ((up_ acc) ++ y) ys n (wrap64 (i + 1))) else (none))) R := fun w hw hb => by
    refine Ev.one (Ev.pos (sm w hw) ?_)
    rw [e1, ← hb, up2]
    exact h
  obtain ⟨x1, x2, x3, x4, x5, x6⟩ := hex_and b
  by_cases c1 : b.toNat = 34
  · refine Ev.pos (by rw [c1]; rfl) (Ev.step (fun _ => rfl) ?_)
    simp only [quote_Put.j1]
    refine Ev.pos (by trivial) (go _ (by simp) ?_)
    rw [oneP, if_pos (.inl c1)]
    rfl
  refine Ev.neg (fun e => c1 (Int.ofNat_inj.1 e)) (Ev.step (fun _ => rfl) ?_)
  simp only [quote_Put.j1]
  by_cases c2 : b.toNat = 92
  · refine Ev.pos (by rw [c2]; rfl) (go _ (by simp) ?_)
    rw [oneP, if_pos (.inr c2)]
    rfl
  have c12 : ¬ (b.toNat = 34 ∨ b.toNat = 92) := fun e => e.elim c1 c2
  refine Ev.neg (by rw [beq_iff_eq]; exact fun e => c2 (Int.ofNat_inj.1 e)) ?_
  by_cases c3 : b.toNat = 10
  · refine Ev.pos (by rw [c3]; rfl) (go _ (by simp) ?_)
    rw [oneP, if_neg c12, if_pos c3]
    rfl
  refine Ev.neg (fun e => c3 (Int.ofNat_inj.1 e)) ?_
  by_cases c4 : b.toNat = 9
  · refine Ev.pos (by rw [c4]; rfl) (go _ (by simp) ?_)
    rw [oneP, if_neg c12, if_neg c3, if_pos c4]
    rfl
  refine Ev.neg (fun e => c4 (Int.ofNat_inj.1 e)) ?_
  by_cases c5 : b.toNat < 32
  · refine Ev.pos (Int.ofNat_lt.2 c5) (Ev.pos x3 (Ev.pos x4 (Ev.pos x5 (Ev.pos x6 (go _ (by simp) ?_)))))
    rw [x1, x2, oneP, if_neg c12, if_neg c3, if_neg c4, if_pos (.inl c5)]
    rfl
  refine Ev.neg (fun e => c5 (Int.ofNat_lt.1 e)) ?_
  by_cases c6 : 126 < b.toNat
  · refine Ev.pos (Int.ofNat_lt.2 c6) (Ev.pos x3 (Ev.pos x4 (Ev.pos x5 (Ev.pos x6 (go _ (by simp) ?_)))))
    rw [x1, x2, oneP, if_neg c12, if_neg c3, if_neg c4, if_pos (.inr c6)]
    rfl
  · refine Ev.neg (fun e => c6 (Int.ofNat_lt.1 e)) (Ev.pos (sm [] (by simp)) ?_)
    have e : up_ acc ++ [(b.toNat : Int)] = up_ (acc ++ oneP b) := by
      rw [oneP, if_neg c12, if_neg c3, if_neg c4, if_neg (fun e => e.elim c5 c6), ← up2]
      rfl
    rw [e, e1]
    exact h
theorem put_loop (s : ByteArray) (hs : SmallN (4 * s.size + 8)) : ∀ (d i : Nat) (acc : List UInt8), s.size - i = d → i ≤ s.size → acc.length ≤ 1 + 4 * i →
    Ev (fun k => quote_Put.l0 k (up_ acc) (bytesOf s) ((bytesOf s).length : Int) (i : Int)) ⟨(acc ++ ((by_ s).drop i).flatMap oneP ++ [34]).toArray⟩ := by
  intro d
  induction d with
  | zero =>
    intro i acc hd hi ha
    have hb := by_length s
    have hl := bytesOf_length s
    refine Ev.step (fun _ => rfl) ?_
    simp only [quote_Put.l0]
    rw [List.drop_of_length_le (by omega)]
    refine Ev.neg (by omega) (Ev.pos ((hs.low (by omega)).up (Nat.le_refl acc.length)) (Ev.ret ?_))
    rw [List.flatMap_nil, List.append_nil, ← nums_up]
    simp [up_]
  | succ d ih =>
    intro i acc hd hi ha
    have hb := by_length s
    have hl := bytesOf_length s
    have hlt : i < (by_ s).length := by omega
    have hc : rd (bytesOf s) (i : Int) = (((by_ s)[i]).toNat : Int) := by rw [rd_bytesOf, bt_by s i hlt]
    obtain ⟨b, hbb⟩ : ∃ b, (by_ s)[i] = b := ⟨_, rfl⟩
    rw [hbb] at hc
    have hob := oneP_len b
    have hdr := List.drop_eq_getElem_cons hlt
    rw [hbb] at hdr
    rw [hdr, List.flatMap_cons, ← List.append_assoc]
    refine Ev.step (fun _ => rfl) ?_
    simp only [quote_Put.l0]
    rw [hc]
    refine Ev.pos (by omega) (Ev.pos (by omega) (Ev.pos (by omega) ?_))
    have ih' := ih (i + 1) (acc ++ oneP b) (by omega) (by omega) (by rw [List.length_append]; omega)
    refine put_one b acc _ _ _ _ (hs.low (by omega)) ?_ ih'
    exact (hs.low (i := i) (by omega)).add 1 (by omega)
theorem put_ev (s : ByteArray) (hs : SmallN (4 * s.size + 8)) : Ev (fun k => quote_Put.f k s) ⟨(putP (by_ s)).toArray⟩ := by
  have h := put_loop s hs s.size 0 [34] rfl (Nat.zero_le _) (by simp)
  unfold quote_Put.f
  refine Ev.pos (Nat.le_trans (Nat.le_trans (by omega) (Nat.le_of_lt hs.out)) (by decide : 140737488355328 ≤ 9223372036854775807)) (Ev.one ?_)
  exact h
end Go.Proofs.Ytifcnblgpnfehaa.B
