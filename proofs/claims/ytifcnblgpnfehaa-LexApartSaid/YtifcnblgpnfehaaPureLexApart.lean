/-
  The law of words that stand apart, for the seat Ytifcnblgpnfehaa.
-/
import Derived.Test.YtifcnblgpnfehaaX26
import Derived.Test.YtifcnblgpnfehaaO
import Derived.Test.YtifcnblgpnfehaaP
set_option linter.unusedVariables false
set_option linter.unusedSimpArgs false
namespace Go.Proofs.Ytifcnblgpnfehaa.Pure
open Go.RowKit Go.Proofs.Ytifcnblgpnfehaa.X Go.Proofs.Ytifcnblgpnfehaa.B Go.Proofs.YtifcnblgpnfehaaW.PrintWords Go.Proofs.YtifcnblgpnfehaaW.PrintLast

/-- so far: n words, each with a space behind it -/
structure Inv (s : ByteArray) (l : List S33) (n : Nat) : Prop where
  len : l.length = n
  lo : 2 * n ≤ s.size
  hi : s.size ≤ 15 * n
  all : ∀ d r, allP (d + 2 * n) (by_ s ++ r) 0 [] = allP d r s.size l
theorem inv_nil : Inv ⟨#[]⟩ [] 0 := ⟨rfl, by decide, by decide, fun d r => rfl⟩
theorem inv_step {s : ByteArray} {l : List S33} {n : Nat} (h : Inv s l n) (w x : ByteArray) (k : Int) (h1 : 1 ≤ w.size) (h14 : w.size ≤ 14)
    (hw : ∀ r, wordP (by_ w ++ 32 :: r) = some (k, by_ x, (by_ w).length)) : Inv (s ++ w ++ ⟨#[32]⟩) (l ++ [⟨k, x, (s.size : Int)⟩]) (n + 1) := by
  have hz : (s ++ w ++ (⟨#[32]⟩ : ByteArray)).size = s.size + w.size + 1 := by rw [ByteArray.size_append, ByteArray.size_append]; rfl
  have hb := by_length w
  refine ⟨by rw [List.length_append, h.len]; rfl, ?_, ?_, fun d r => ?_⟩
  · have := h.lo
    rw [hz]
    clear hz hw
    omega
  · have := h.hi
    rw [hz]
    clear hz hw
    omega
  · have e : by_ (s ++ w ++ (⟨#[32]⟩ : ByteArray)) ++ r = by_ s ++ (by_ w ++ 32 :: r) := by
      rw [by_append, by_append, by_lit, List.append_assoc, List.append_assoc]
      rfl
    rw [e, show d + 2 * (n + 1) = (d + 1 + 1) + 2 * n from by omega, h.all, allP_word (d + 1) s.size l (hw r), allP, if_pos (by decide), hz, hb, mk_by]
theorem wb (x : Int) (h0 : 0 ≤ x) (h1 : x ≤ 255) : wrap64 x = x := by rw [wrap_in] <;> omega
/-! ### the four kinds -/
theorem sign_word (o : List UInt8) (ho : o ∈ opsP) (r : List UInt8) : wordP (o ++ 32 :: r) = some (4, o, o.length) := by
  have h : ∀ o ∈ opsP, 2 ≤ (o ++ [32]).length ∧ opP ((o ++ [32]).take 2) = some o := by decide
  obtain ⟨h1, h2⟩ := h o ho
  refine word_op ?_
  rw [op_two, show o ++ 32 :: r = (o ++ [32]) ++ r by simp, List.take_append_of_le_length h1]
  exact h2
theorem text_word (t r : List UInt8) : wordP (putP t ++ 32 :: r) = some (2, t, (putP t).length) :=
  word_text (op_not _ (by decide)) (getP_put t _)
def nmW (x : Int) : ByteArray := (⟨#[110]⟩ : ByteArray) ++ strOfNums [(97 + (Int.tmod x 26)) % 256, 95, (48 + (Int.tmod x 10)) % 256]
def vlW (x : Int) : ByteArray := strOfNums [(48 + (Int.tmod x 10)) % 256, (97 + (Int.tmod x 26)) % 256, 90]
theorem name_w (n : Nat) (hn : n < 256) (r : List UInt8) : wordP (by_ (nmW n) ++ 32 :: r) = some (1, by_ (nmW n), (by_ (nmW n)).length) := by
  have h : ∀ n : Fin 256, ∃ w, by_ (nmW (n.val : Int)) = 110 :: w ∧ (∀ d ∈ (110 : UInt8) :: w, nameC d = true) ∧ nameP (110 :: w) = true := fun n => by
    have h2 : ∀ n : Fin 256, (by_ (nmW (n.val : Int))).head? = some 110 ∧ (by_ (nmW (n.val : Int))).all nameC = true ∧ nameP (by_ (nmW (n.val : Int))) = true := by decide +kernel
    obtain ⟨a1, a2, a3⟩ := h2 n
    cases hb : by_ (nmW (n.val : Int)) with
    | nil => rw [hb] at a1; cases a1
    | cons c w =>
      rw [hb] at a1 a2 a3
      cases a1
      exact ⟨w, rfl, List.all_eq_true.1 a2, a3⟩
  obtain ⟨w, h1, h2, h3⟩ := h ⟨n, hn⟩
  simp only at h1
  rw [h1]
  exact word_name (by decide) h2 h3 (fun d r' e => by cases e; decide)
theorem val_w (n : Nat) (hn : n < 256) (r : List UInt8) : wordP (by_ (vlW n) ++ 32 :: r) = some (3, by_ (vlW n), (by_ (vlW n)).length) := by
  have h : ∀ n : Fin 256, ∃ c w, by_ (vlW (n.val : Int)) = c :: w ∧ digC c = true ∧ (∀ d ∈ c :: w, valC d = true) := fun n => by
    have h2 : ∀ n : Fin 256, (by_ (vlW (n.val : Int))).head?.any digC = true ∧ (by_ (vlW (n.val : Int))).all valC = true := by decide +kernel
    obtain ⟨a1, a2⟩ := h2 n
    cases hb : by_ (vlW (n.val : Int)) with
    | nil => rw [hb] at a1; cases a1
    | cons c w =>
      rw [hb] at a1 a2
      exact ⟨c, w, rfl, a1, List.all_eq_true.1 a2⟩
  obtain ⟨c, w, h1, h2, h3⟩ := h ⟨n, hn⟩
  simp only at h1
  rw [h1]
  exact word_num h2 h3 (fun d r' e => by cases e; decide)
theorem nm_size (x : Int) : (nmW x).size = 4 := by rw [nmW, ByteArray.size_append, size_nums]; rfl
theorem vl_size (x : Int) : (vlW x).size = 3 := by rw [vlW, size_nums]; rfl
/-! ### the end -/
theorem apart_cmp (l : List S33) (s : ByteArray) (hl : l.length ≤ 1024) : ∀ (d i : Nat), l.length - i = d → i ≤ l.length →
    Ev (fun k => archivistlaw07_LexApart.l1 k true s l l (s.size : Int) 0 (i : Int)) true
  | 0, i, hd, hi => by
    refine Ev.step (fun _ => rfl) ?_
    simp only [archivistlaw07_LexApart.l1]
    exact Ev.neg (by omega) (Ev.pos (by trivial) (Ev.pos (by trivial) (Ev.ret (by simp))))
  | d + 1, i, hd, hi => by
    have ih := apart_cmp l s hl d (i + 1) (by omega) (by omega)
    have e1 : wrap64 ((i : Int) + 1) = ((i + 1 : Nat) : Int) := by rw [wrap_in] <;> omega
    refine Ev.step (fun _ => rfl) ?_
    simp only [archivistlaw07_LexApart.l1]
    rw [e1]
    exact Ev.pos (by omega) (Ev.pos (by omega) (Ev.pos (by omega) (Ev.neg (by simp) ih)))
theorem apart_end (s : ByteArray) (l : List S33) (n : Nat) (h : Inv s l n) (hn : n ≤ 20) :
    Ev (fun k => (lex_All.f k s).bind fun bt530 => (if (bt530.1.length : Int) = (l.length : Int) then (archivistlaw07_LexApart.l1 k true s l bt530.1 bt530.2.1 bt530.2.2 0) else (none))) true := by
  have h1 := all_ev s
  have hz : ¬ 1024 < s.size := by
    have := h.hi
    omega
  obtain ⟨d, hd⟩ : ∃ d, s.size = d + 2 * n := ⟨s.size - 2 * n, by have := h.lo; omega⟩
  have e := h.all d []
  have e2 : allP d [] s.size l = (l, (s.size : Int), 0) := by cases d <;> rfl
  rw [if_neg hz, hd, ← List.append_nil (by_ s), e, e2] at h1
  refine Ev.bind h1 (Ev.pos rfl ?_)
  exact apart_cmp l s (by rw [h.len]; omega) l.length 0 rfl (Nat.zero_le _)
theorem apart_sz {s w : ByteArray} (h1 : s.size ≤ 300) (h2 : w.size ≤ 14) : s.size + w.size ≤ 9223372036854775807 ∧ (s ++ w).size + 1 ≤ 9223372036854775807 := by
  rw [ByteArray.size_append]
  omega
theorem put3_size (b : UInt8) : (⟨(putP [b, 34, 120]).toArray⟩ : ByteArray).size ≤ 14 ∧ 1 ≤ (⟨(putP [b, 34, 120]).toArray⟩ : ByteArray).size := by
  have h := flat_len [b, 34, 120]
  rw [← by_length, by_mk, putP_len]
  simp only [List.length_cons, List.length_nil] at h
  omega
theorem idx4 (n : Nat) (hn : n < 256) : wrap64 (n : Int) = (n : Int) ∧ wrap64 (Int.tdiv (n : Int) 4) = ((n / 4 : Nat) : Int) ∧ Int.tmod ((n / 4 : Nat) : Int) 15 = ((n / 4 % 15 : Nat) : Int) ∧ Int.tmod (n : Int) 4 = ((n % 4 : Nat) : Int) := by
  refine ⟨wb _ (by omega) (by omega), ?_, rfl, rfl⟩
  exact wb ((n / 4 : Nat) : Int) (by omega) (by omega)
theorem apart_loop (l0 : List Int) (hl : l0.length ≤ 140737488351232) (hw : ∀ x ∈ l0, 0 ≤ x ∧ x ≤ 255) : ∀ (d i : Nat) (s : ByteArray) (l : List S33), 20 - i = d → i ≤ l0.length → i ≤ 20 → Inv s l i →
    Ev (fun k => archivistlaw07_LexApart.l0 k l0 true s l opsB (i : Int)) true
  | d, i, s, l, hd, hi, h20, hI => by
    have hend : Ev (fun k => archivistlaw07_LexApart.j1 k l0 true s l opsB (i : Int) false) true := by
      refine Ev.step (fun _ => rfl) ?_
      simp only [archivistlaw07_LexApart.j1]
      exact Ev.neg (by decide) (apart_end s l i hI h20)
    refine Ev.step (fun _ => rfl) ?_
    simp only [archivistlaw07_LexApart.l0]
    by_cases hlt : i < l0.length
    · refine Ev.pos (by omega) ?_
      by_cases h2 : i < 20
      · match d, hd with
        | 0, hd => omega
        | d + 1, hd =>
          have hx := hw _ (List.getElem_mem (h := hlt))
          have hrd : rd l0 (i : Int) = l0[i] := by simp [rd, hlt]
          obtain ⟨n, hn⟩ := Int.eq_ofNat_of_zero_le hx.1
          have hn256 : n < 256 := by omega
          rw [hn] at hrd
          have e1 : wrap64 ((i : Int) + 1) = ((i + 1 : Nat) : Int) := by rw [wrap_in] <;> omega
          have ih : ∀ s l, Inv s l (i + 1) → Ev (fun k => archivistlaw07_LexApart.l0 k l0 true s l opsB (wrap64 ((i : Int) + 1))) true := fun s l h => by
            rw [e1]
            exact apart_loop l0 hl hw d (i + 1) s l (by omega) (by omega) (by omega) h
          have hsz : s.size ≤ 300 := by have := hI.hi; omega
          have hll : l.length < 4398046511104 := by have := hI.len; omega
          have go : ∀ (w x : ByteArray) (k : Int), 1 ≤ w.size → w.size ≤ 14 → (∀ r, wordP (by_ w ++ 32 :: r) = some (k, by_ x, (by_ w).length)) →
              Ev (fun n => if l.length < 4398046511104 then (if s.size + w.size ≤ 9223372036854775807 then (if (s ++ w).size + 1 ≤ 9223372036854775807 then (archivistlaw07_LexApart.l0 n l0 true ((s ++ w) ++ (⟨#[32]⟩ : ByteArray)) (l ++ [(⟨k, x, (s.size : Int)⟩ : S33)]) opsB (wrap64 ((i : Int) + 1))) else (none)) else (none)) else (none)) true := fun w x k h1 h14 hwd => by
            obtain ⟨z1, z2⟩ := apart_sz hsz h14
            exact Ev.pos hll (Ev.pos z1 (Ev.pos z2 (ih _ _ (inv_step hI w x k h1 h14 hwd))))
          obtain ⟨ew, e2, e3, e4⟩ := idx4 n hn256
          have h3 : decide ((i : Int) < 20) = true := decide_eq_true (by omega)
          rw [h3]
          refine Ev.step (fun _ => rfl) ?_
          simp only [archivistlaw07_LexApart.j1]
          rw [hrd, ew, e2, e3, e4]
          clear ew e2 e3 e4 hrd
          refine Ev.pos (by trivial) (Ev.pos (by omega) (Ev.pos (by omega) ?_))
          have hm : n % 4 < 4 := Nat.mod_lt _ (by decide)
          obtain ⟨m, hmm⟩ : ∃ m, n % 4 = m := ⟨_, rfl⟩
          rw [hmm] at hm ⊢
          by_cases c0 : m = 0
          · obtain ⟨q, hq⟩ : ∃ q, n / 4 % 15 = q := ⟨_, rfl⟩
            have hq15 : q < 15 := by rw [← hq]; exact Nat.mod_lt _ (by decide)
            rw [hq]
            have hO : ∀ q : Fin 15, by_ (rdOf ByteArray.empty opsB (q.val : Int)) ∈ opsP ∧ 1 ≤ (rdOf ByteArray.empty opsB (q.val : Int)).size ∧ (rdOf ByteArray.empty opsB (q.val : Int)).size ≤ 14 := by decide +kernel
            obtain ⟨o1, o2, o3⟩ := hO ⟨q, hq15⟩
            have hol : opsB.length = 15 := rfl
            refine Ev.pos (by omega) (Ev.pos (by omega) (Ev.pos (by omega) (go _ _ 4 o2 o3 fun r => ?_)))
            exact sign_word _ o1 r
          refine Ev.neg (by omega) ?_
          by_cases c1 : m = 1
          · refine Ev.pos (by omega) (Ev.one ?_)
            have hb3 : by_ (strOfNums [(n : Int), 34, 120]) = [UInt8.ofNat n, 34, 120] := rfl
            have hs3 : (strOfNums [(n : Int), 34, 120]).size = 3 := by rw [size_nums]; rfl
            have hp := put_ev (strOfNums [(n : Int), 34, 120]) (SmallN.of (by rw [hs3]; decide))
            rw [hb3] at hp
            obtain ⟨p1, p2⟩ := put3_size (UInt8.ofNat n)
            refine Ev.bind hp (go _ _ 2 p2 p1 fun r => ?_)
            rw [by_mk, hb3]
            exact text_word _ r
          refine Ev.neg (by omega) ?_
          by_cases c2 : m = 2
          · refine Ev.pos (by omega) (Ev.one ?_)
            have hsz2 : 1 + (strOfNums [(97 + (Int.tmod (n : Int) 26)) % 256, 95, (48 + (Int.tmod (n : Int) 10)) % 256]).size ≤ 9223372036854775807 := by
              rw [size_nums]
              exact (by decide : 1 + 3 ≤ 9223372036854775807)
            exact Ev.pos hsz2 (go (nmW n) (nmW n) 1 (by rw [nm_size]; decide) (by rw [nm_size]; decide) (name_w n hn256))
          refine Ev.neg (by omega) (Ev.pos (by omega) (Ev.one ?_))
          exact go (vlW n) (vlW n) 3 (by rw [vl_size]; decide) (by rw [vl_size]; decide) (val_w n hn256)
      · rw [decide_eq_false (by omega)]
        exact hend
    · exact Ev.neg (by omega) hend
theorem LexApart : archivistlaw07_LexApart.Pure := by
  intro l0 _ h2 hw
  refine Ev.rounds ?_
  unfold archivistlaw07_LexApart.f
  rw [lexOps_f]
  refine Ev.bind lexExamples_ev (Ev.pos (by trivial) (Ev.one (Ev.neg (by decide) ?_)))
  exact apart_loop l0 (by omega) (u8_of_wf hw) 20 0 _ _ rfl (Nat.zero_le _) (by omega) inv_nil
end Go.Proofs.Ytifcnblgpnfehaa.Pure
