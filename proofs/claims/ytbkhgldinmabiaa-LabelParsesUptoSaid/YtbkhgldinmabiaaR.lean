/-
 The plain texts of the seat Ytbkhgldinmabiaa in one.
-/
import Derived.Test.YtbkhgldinmabiaaX20
import Derived.Test.YtbkhgldinmabiaaX25
import Derived.Test.YtbkhgldinmabiaaJP
import Derived.Test.YtbkhgldinmabiaaX26
section
set_option linter.unusedVariables false
set_option linter.unusedSimpArgs false
namespace Go.Proofs.Ytbkhgldinmabiaa.B
open Go.RowKit Go.Proofs.Ytbkhgldinmabiaa.X Go.Proofs.YtbkhgldinmabiaaW.PrintWords Go.Proofs.YtbkhgldinmabiaaW.PrintLast

theorem one_ev (b : UInt8) : Ev (fun k => archivistref01_one.f k (b.toNat : Int)) ⟨(oneP b).toArray⟩ := by
 refine Ev.of (k := 5) (archivistref01_one.mono _) ?_
 have h : ∀ n : Fin 256, archivistref01_one.f 5 ((UInt8.ofNat n.val).toNat : Int) = some ⟨(oneP (UInt8.ofNat n.val)).toArray⟩ := by decide +kernel
 have := h ⟨b.toNat, b.toNat_lt⟩
 simpa using this
/-! ### the document's Get -/
theorem ref_no (s : ByteArray) (x5 : List Int) (i b : Nat) (t : ByteArray) (R : ByteArray × Int × Bool) (hb : b < 256) (hi : i < s.size) (h1 : Ev (fun k => archivistref01_one.f k ((b : Int) % 256)) t)
  (m : Nat) (e2 : wrap64 ((i : Int) + (t.size : Int)) = ((i + m : Nat) : Int)) (hno : i + m ≤ s.size → ¬ (s.extract i (i + m)).toList = t.toList)
  (h : Ev (fun k => archivistref01_Get.l1 k s x5 (i : Int) false ((b + 1 : Nat) : Int)) R) : Ev (fun k => archivistref01_Get.l1 k s x5 (i : Int) false (b : Int)) R := by
 have e1 : wrap64 ((b : Int) + 1) = ((b + 1 : Nat) : Int) := by rw [wrap_in] <;> omega
 refine Ev.step (fun _ => rfl) ?_
 simp only [archivistref01_Get.l1]
 refine Ev.pos (by omega) (Ev.step (fun _ => rfl) ?_)
 simp only [archivistref01_Get.j4]
 refine Ev.pos (by decide) (Ev.bind h1 ?_)
 rw [e1, e2]
 by_cases hlen : i + m ≤ s.size
 ·refine Ev.pos (Int.ofNat_le.2 hlen) (Ev.pos (Int.natCast_nonneg _) (Ev.pos (Int.ofNat_le.2 (Nat.le_add_right _ _)) ?_))
  rw [Int.toNat_natCast, Int.toNat_natCast]
  exact Ev.neg (hno hlen) h
 ·exact Ev.neg (by omega) h
theorem ref_end (s : ByteArray) (x5 : List Int) (i b : Nat) (hb : b ≤ 256) (R : ByteArray × Int × Bool) (h : Ev (fun k => archivistref01_Get.l0 k s x5 (i : Int)) R) : Ev (fun k => archivistref01_Get.l1 k s x5 (i : Int) true (b : Int)) R := by
 refine Ev.step (fun _ => rfl) ?_
 simp only [archivistref01_Get.l1]
 by_cases h5 : (b : Int) < 256
 ·refine Ev.pos h5 (Ev.step (fun _ => rfl) ?_)
  simp only [archivistref01_Get.j4]
  exact Ev.neg (by decide) (Ev.pos (by trivial) h)
 ·refine Ev.neg h5 (Ev.step (fun _ => rfl) ?_)
  simp only [archivistref01_Get.j4]
  exact Ev.neg (by decide) (Ev.pos (by trivial) h)
theorem ref_yes (s : ByteArray) (x5 : List Int) (i b : Nat) (t : ByteArray) (R : ByteArray × Int × Bool) (hb : b < 256) (hi : i < s.size) (h1 : Ev (fun k => archivistref01_one.f k ((b : Int) % 256)) t)
  (m : Nat) (e2 : wrap64 ((i : Int) + (t.size : Int)) = ((i + m : Nat) : Int)) (hlen : i + m ≤ s.size) (hyes : (s.extract i (i + m)).toList = t.toList) (hx : x5.length < 140737488355328)
  (h : Ev (fun k => archivistref01_Get.l0 k s (x5 ++ [(b : Int) % 256]) ((i + m : Nat) : Int)) R) : Ev (fun k => archivistref01_Get.l1 k s x5 (i : Int) false (b : Int)) R := by
 have e1 : wrap64 ((b : Int) + 1) = ((b + 1 : Nat) : Int) := by rw [wrap_in] <;> omega
 refine Ev.step (fun _ => rfl) ?_
 simp only [archivistref01_Get.l1]
 refine Ev.pos (by omega) (Ev.step (fun _ => rfl) ?_)
 simp only [archivistref01_Get.j4]
 refine Ev.pos (by decide) (Ev.bind h1 ?_)
 rw [e1, e2]
 refine Ev.pos (Int.ofNat_le.2 hlen) (Ev.pos (Int.natCast_nonneg _) (Ev.pos (Int.ofNat_le.2 (Nat.le_add_right _ _)) ?_))
 rw [Int.toNat_natCast, Int.toNat_natCast]
 exact Ev.pos hyes (Ev.pos hx (ref_end s _ (i + m) (b + 1) (by omega) R h))
theorem le_of_sub_eq {i m x z : Nat} (hi : i < z) (h : z - i = m + x) : i + m ≤ z := by omega
theorem ref_scan (s : ByteArray) (hs : SmallN s.size) (i : Nat) (hi : i < s.size) (acc : List UInt8) (ha : acc.length ≤ i) (hq : ((by_ s).drop i).head? ≠ some 34) (R : ByteArray × Int × Bool)
  (H0 : decP ((by_ s).drop i) = none → R = (⟨#[]⟩, 0, false))
  (H1 : ∀ b n, decP ((by_ s).drop i) = some (b, n) → Ev (fun k => archivistref01_Get.l0 k s (up_ (acc ++ [b])) ((i + n : Nat) : Int)) R) : ∀ (d b : Nat), 256 - b = d → b ≤ 256 → (∀ b0 n, decP ((by_ s).drop i) = some (b0, n) → b ≤ b0.toNat) →
  Ev (fun k => archivistref01_Get.l1 k s (up_ acc) (i : Int) false (b : Int)) R := by
 intro d
 induction d with
 | zero =>
  intro b hd hb hlow
  have hb' : b = 256 := by omega
  subst hb'
  refine Ev.step (fun _ => rfl) ?_
  simp only [archivistref01_Get.l1]
  refine Ev.neg (by decide) (Ev.step (fun _ => rfl) ?_)
  simp only [archivistref01_Get.j4]
  refine Ev.neg (by decide) (Ev.neg (by decide) (Ev.ret ?_))
  refine (H0 ?_).symm
  cases h : decP ((by_ s).drop i) with
  | none => rfl
  | some q =>
   obtain ⟨b0, n⟩ := q
   have := hlow b0 n h
   have := b0.toNat_lt
   omega
 | succ d ih =>
  intro b hd hb hlow
  have hlt : b < 256 := by omega
  have hsi : SmallN i := hs.lt hi
  obtain ⟨c, hc⟩ : ∃ c, UInt8.ofNat b = c := ⟨_, rfl⟩
  have hcb : c.toNat = b := by rw [← hc]; simp; omega
  have eb : ((b : Int)) % 256 = (c.toNat : Int) := by omega
  have hup : up_ acc ++ [(b : Int) % 256] = up_ (acc ++ [c]) := by rw [eb]; simp [up_]
  obtain ⟨hl1, hl4⟩ := oneP_len c
  have hts : (⟨(oneP c).toArray⟩ : ByteArray).size = (oneP c).length := by rw [← by_length, by_mk]
  have e2 : wrap64 ((i : Int) + ((⟨(oneP c).toArray⟩ : ByteArray).size : Int)) = ((i + (oneP c).length : Nat) : Int) := by
   rw [hts]
   exact hsi.add _ hl4
  have hone : Ev (fun k => archivistref01_one.f k ((b : Int) % 256)) ⟨(oneP c).toArray⟩ := by
   rw [eb]
   exact one_ev c
  have e3 : (s.extract i (i + (oneP c).length)).toList = ((by_ s).drop i).take (oneP c).length := by
   rw [toList_by, by_extract, List.drop_take, Nat.add_sub_cancel_left]
  have e4 : (⟨(oneP c).toArray⟩ : ByteArray).toList = oneP c := by rw [toList_by, by_mk]
  by_cases hlen : i + (oneP c).length ≤ s.size ∧ ((by_ s).drop i).take (oneP c).length = oneP c
  ·obtain ⟨hlen, hp⟩ := hlen
   have hdec : decP ((by_ s).drop i) = some (c, (oneP c).length) := by
    rw [← List.take_append_drop (oneP c).length ((by_ s).drop i), hp]
    exact dec_one c _
   refine ref_yes s _ i b _ R hlt hi hone _ e2 hlen (by rw [e3, e4, hp]) (hsi.up ha) ?_
   rw [hup]
   exact H1 c _ hdec
  ·refine ref_no s _ i b _ R hlt hi hone _ e2 (fun h h2 => hlen ⟨h, e3.symm.trans (h2.trans e4)⟩) (ih (b + 1) (by omega) (by omega) fun b0 n h0 => ?_)
   have h1 := hlow b0 n h0
   by_cases h2 : b0.toNat = b
   ·exfalso
    have h5 : b0 = c := UInt8.toNat_inj.1 (by omega)
    obtain ⟨h3, h4⟩ := one_dec h0 hq
    rw [h5] at h3
    have h6 := congrArg List.length h3
    rw [List.length_append, List.length_drop, by_length] at h6
    exact hlen ⟨le_of_sub_eq hi h6, by rw [h3, List.take_left]⟩
   ·omega

theorem ref_loop (s : ByteArray) (hs : SmallN s.size) : ∀ (d i : Nat) (acc : List UInt8), s.size - i = d → i ≤ s.size → acc.length ≤ i →
  Ev (fun k => archivistref01_Get.l0 k s (up_ acc) (i : Int)) (getI ((unqP ((by_ s).drop i)).map fun r => (acc ++ r.1, r.2 + i))) := by
 intro d
 induction d using Nat.strongRecOn with
 | _ d ih =>
  intro i acc hd hi ha
  have hz := by_length s
  refine Ev.step (fun _ => rfl) ?_
  simp only [archivistref01_Get.l0]
  by_cases hlt : i < s.size
  ·have hl2 : i < (by_ s).length := by omega
   have hbt := bt_by s i hl2
   obtain ⟨c, hc⟩ : ∃ c, (by_ s)[i] = c := ⟨_, rfl⟩
   rw [hc] at hbt
   have hdr := List.drop_eq_getElem_cons hl2
   rw [hc] at hdr
   rw [hbt]
   refine Ev.pos (by omega) (Ev.pos (by omega) (Ev.step (fun _ => rfl) ?_))
   simp only [archivistref01_Get.j2]
   by_cases hq : c.toNat = 34
   ·have e1 : wrap64 ((i : Int) + 1) = ((i + 1 : Nat) : Int) := (hs.lt hlt).add 1 (by omega)
    refine Ev.neg (by simp; omega) (Ev.neg (by omega) (Ev.ret ?_))
    rw [hdr, unqP, if_pos hq, e1]
    simp only [Option.map_some, getI, List.append_nil, nums_up]
    rw [Nat.add_comm]
   ·refine Ev.pos (by simp; omega) ?_
    have hh : ((by_ s).drop i).head? ≠ some 34 := by
     rw [hdr]
     simp
     exact fun e => hq (by rw [e]; rfl)
    refine ref_scan s hs i hlt acc ha hh _ (fun h => ?_) (fun b n h => ?_) 256 0 rfl (by omega) (fun _ _ _ => by omega)
    ·rw [hdr] at h ⊢
     rw [unqP, if_neg hq, h]
     rfl
    ·have hn := decP_len h
     rw [List.length_drop] at hn
     have h2 := ih (s.size - (i + n)) (by omega) (i + n) (acc ++ [b]) rfl (by omega) (by rw [List.length_append, List.length_singleton]; omega)
     rw [← List.drop_drop] at h2
     have e : ((unqP ((by_ s).drop i)).map fun r => (acc ++ r.1, r.2 + i)) = ((unqP (((by_ s).drop i).drop n)).map fun r => (acc ++ [b] ++ r.1, r.2 + (i + n))) := by
      rw [hdr] at h ⊢
      rw [unqP, if_neg hq, h]
      obtain ⟨m, rfl⟩ : ∃ m, n = m + 1 := ⟨n - 1, by omega⟩
      simp only [Nat.add_sub_cancel, List.drop_succ_cons, Option.map_map]
      congr 1
      funext r
      simp
      omega
     rw [e]
     exact h2
  ·rw [List.drop_of_length_le (by omega), unqP]
   refine Ev.neg (by omega) (Ev.step (fun _ => rfl) ?_)
   simp only [archivistref01_Get.j2]
   exact Ev.neg (by decide) (Ev.pos (by omega) (Ev.now _))
theorem refGet_ev (s : ByteArray) (hs : SmallN s.size) : Ev (fun k => archivistref01_Get.f k s) (getI (getP (by_ s))) := by
 have hz := by_length s
 unfold archivistref01_Get.f
 rw [toList_by]
 cases hb : by_ s with
 | nil => exact Ev.pos rfl (Ev.step (f := fun _ => some (⟨#[]⟩, 0, false)) (fun _ => by simp [archivistref01_Get.j0]) (Ev.now _))
 | cons c l =>
  have hl : 0 < (by_ s).length := by rw [hb]; simp
  have hbt := bt_by s 0 hl
  have h0 : (by_ s)[0] = c := by simp [hb]
  rw [h0] at hbt
  refine Ev.neg (by simp) (Ev.pos (by omega) (Ev.step (fun _ => rfl) ?_))
  simp only [archivistref01_Get.j0]
  have hbt' : bt s 0 = (c.toNat : Int) := hbt
  rw [hbt', getP]
  by_cases hq : c.toNat = 34
  ·rw [if_pos hq]
   refine Ev.neg (by simp; omega) ?_
   have h := ref_loop s hs (s.size - 1) 1 [] rfl (by omega) (by simp)
   rw [hb] at h
   simpa [up_] using h
  ·rw [if_neg hq]
   exact Ev.pos (by simp; omega) (Ev.now _)
end Go.Proofs.Ytbkhgldinmabiaa.B
end

section
set_option linter.unusedVariables false
set_option linter.unusedSimpArgs false
namespace Go.Proofs.Ytbkhgldinmabiaa.B
open Go.RowKit Go.Proofs.Ytbkhgldinmabiaa.X Go.Proofs.YtbkhgldinmabiaaW.PrintWords Go.Proofs.YtbkhgldinmabiaaW.PrintLast

/-! ### Parse -/
def scanN : Nat → List UInt8 → Nat
 | _, [] => 0
 | 0, _ => 0
 | n + 1, c :: t => if c = 61 then 0 else scanN n t + 1
theorem scan_none : ∀ (n : Nat) (r : List UInt8), 61 ∉ r → r[scanN n r]? ≠ some 61
 | n, r, h, e => h (List.mem_of_getElem? e)
theorem scan_some (b : List UInt8) : ∀ (n : Nat) (a : List UInt8), 61 ∉ a → (a.length ≤ n → scanN n (a ++ 61 :: b) = a.length) ∧ (n < a.length → (a ++ 61 :: b)[scanN n (a ++ 61 :: b)]? ≠ some 61)
 | 0, [], _ => ⟨fun _ => rfl, fun h => by simp at h⟩
 | 0, c :: a, h => ⟨fun h2 => by simp at h2, fun _ e => h (by
   have e : some c = some 61 := e
   rw [Option.some.inj e]
   exact List.mem_cons_self)⟩
 | n + 1, [], _ => ⟨fun _ => rfl, fun h => by simp at h⟩
 | n + 1, c :: a, h => by
  have hc : ¬ c = 61 := fun e => h (by rw [e]; exact List.mem_cons_self)
  have ih := scan_some b n a (fun hm => h (List.mem_cons_of_mem _ hm))
  have e : scanN (n + 1) (c :: a ++ 61 :: b) = scanN n (a ++ 61 :: b) + 1 := by
   show (if c = 61 then 0 else _) = _
   rw [if_neg hc]
   rfl
  rw [e]
  refine ⟨fun h2 => ?_, fun h2 => ?_⟩
  ·rw [ih.1 (by simp at h2; omega)]
   rfl
  ·rw [List.cons_append, List.getElem?_cons_succ]
   exact ih.2 (by simp at h2; omega)
theorem scan_ev (s : ByteArray) (hs : s.size < 140737488355328) (o : List RLab) (a : Nat) (R : List RLab × Int × Bool) : ∀ (n j : Nat), a + 33 = j + n → n ≤ 33 → j ≤ s.size →
  Ev (fun k => archivistref06_Parse.j4 k s o (a : Int) ((j + scanN n ((by_ s).drop j) : Nat) : Int)) R →
  Ev (fun k => archivistref06_Parse.l1 k s o (a : Int) (j : Int)) R := by
 have hb := by_length s
 intro n
 induction n with
 | zero =>
  intro j hn hn3 hj h
  have e : scanN 0 ((by_ s).drop j) = 0 := by cases (by_ s).drop j <;> rfl
  rw [e, Nat.add_zero] at h
  have hw : wrap64 ((a : Int) + 33) = ((a + 33 : Nat) : Int) := by rw [wrap_in] <;> omega
  refine Ev.step (fun _ => rfl) ?_
  simp only [archivistref06_Parse.l1]
  rw [hw]
  by_cases hlt : j < s.size
  ·refine Ev.pos (by omega) (Ev.pos (by omega) ?_)
   by_cases h61 : bt s (j : Int) = 61
   ·exact Ev.pos h61 h
   ·exact Ev.neg h61 (Ev.neg (by omega) h)
  ·exact Ev.neg (by omega) h
 | succ n ih =>
  intro j hn hn3 hj h
  have hw : wrap64 ((a : Int) + 33) = ((a + 33 : Nat) : Int) := by rw [wrap_in] <;> omega
  refine Ev.step (fun _ => rfl) ?_
  simp only [archivistref06_Parse.l1]
  rw [hw, w1 j (by omega)]
  by_cases hlt : j < s.size
  ·have hlt2 : j < (by_ s).length := by omega
   have hc := bt_by s j hlt2
   rw [List.drop_eq_getElem_cons hlt2] at h
   refine Ev.pos (by omega) (Ev.pos (by omega) ?_)
   unfold scanN at h
   rw [hc]
   by_cases h61 : (by_ s)[j] = 61
   ·rw [if_pos h61, Nat.add_zero] at h
    exact Ev.pos (by rw [h61]; rfl) h
   ·rw [if_neg h61] at h
    refine Ev.neg (fun e => h61 (UInt8.toNat_inj.1 (by show ((by_ s)[j]).toNat = 61; omega))) (Ev.pos (by omega) (ih (j + 1) (by omega) (by omega) (by omega) ?_))
    have e : j + 1 + scanN n ((by_ s).drop (j + 1)) = j + (scanN n ((by_ s).drop (j + 1)) + 1) := by omega
    rw [e]
    exact h
  ·rw [List.drop_of_length_le (by omega)] at h
   exact Ev.neg (by omega) h
def RR (t : List Lab × Int × Bool) : List RLab × Int × Bool := (t.1.map toR, t.2)
theorem j4_no (s : ByteArray) (o : List RLab) (a e : Nat) (h : (by_ s)[e]? ≠ some 61) : Ev (fun k => archivistref06_Parse.j4 k s o (a : Int) (e : Int)) (RR ([], 0, false)) := by
 have hb := by_length s
 have hj : Ev (fun k => archivistref06_Parse.j5 k s o (a : Int) (e : Int) true) (RR ([], 0, false)) := by
  refine Ev.step (fun _ => rfl) ?_
  simp only [archivistref06_Parse.j5]
  exact Ev.pos (by trivial) (Ev.now _)
 refine Ev.step (fun _ => rfl) ?_
 simp only [archivistref06_Parse.j4]
 by_cases hz : s.size ≤ e
 ·exact Ev.pos (by omega) hj
 ·have hlt : e < (by_ s).length := by omega
  rw [bt_by s e hlt]
  have hne : (((((by_ s)[e]).toNat : Int)) != 61) = true := by
   rw [bne_iff_ne]
   intro h2
   apply h
   rw [List.getElem?_eq_getElem hlt]
   exact congrArg some (UInt8.toNat_inj.1 (by show ((by_ s)[e]).toNat = 61; omega))
  rw [hne]
  exact Ev.neg (by omega) (Ev.pos (by omega) (Ev.pos (by omega) hj))
theorem fields_acc : ∀ (d : Nat) (acc : List Lab) (r : List UInt8) (l : List Lab) (x : List UInt8), fieldsP d acc r = some (l, x) → ∃ t, l = acc ++ t
 | 0, _, _, _, _, h => by simp [fieldsP] at h
 | d + 1, acc, r, l, x, h => by
  simp only [fieldsP] at h
  cases he : eqP r with
  | none => rw [he] at h; cases h
  | some ab =>
   rw [he] at h
   cases hg : getP ab.2 with
   | none => simp only [hg] at h; cases h
   | some vn =>
    simp only [hg] at h
    cases hdr : ab.2.drop vn.2 with
    | nil => simp only [hdr] at h; cases h
    | cons c y =>
     simp only [hdr] at h
     by_cases h1 : c = 125
     ·rw [if_pos h1] at h
      exact ⟨_, (Prod.mk.inj (Option.some.inj h)).1.symm⟩
     ·rw [if_neg h1] at h
      by_cases h2 : c = 44
      ·rw [if_pos h2] at h
       obtain ⟨t, rfl⟩ := fields_acc d _ y l x h
       exact ⟨_, List.append_assoc ..⟩
      ·rw [if_neg h2] at h
       cases h
theorem steps_ok : ∀ (l : List Lab) (q : Option Lab), stepsB q l = true → ∀ p ∈ l, okL p = true
 | [], _, _, _, h => by simp at h
 | x :: l, q, h, p, hp => by
  have h2 : okL x = true ∧ stepsB (some x) l = true := by
   cases q with
   | none => simpa [stepsB] using h
   | some y =>
    simp only [stepsB, Bool.and_eq_true] at h
    exact ⟨h.1, h.2.2⟩
  rcases List.mem_cons.1 hp with rfl | hp
  ·exact h2.1
  ·exact steps_ok l _ h2.2 p hp
theorem long_bad (z d : Nat) (acc : List Lab) (r a b : List UInt8) (he : eqP r = some (a, b)) (ha : 33 < a.length) : endL z (fieldsP (d + 1) acc r) = ([], 0, false) := by
 cases hf : fieldsP (d + 1) acc r with
 | none => rfl
 | some lx =>
  obtain ⟨l, x⟩ := lx
  have hm : ∃ v, mkL a v ∈ l := by
   simp only [fieldsP, he] at hf
   cases hg : getP b with
   | none => simp only [hg] at hf; cases hf
   | some vn =>
    simp only [hg] at hf
    cases hdr : b.drop vn.2 with
    | nil => simp only [hdr] at hf; cases hf
    | cons c y =>
     simp only [hdr] at hf
     by_cases h1 : c = 125
     ·rw [if_pos h1] at hf
      rw [← (Prod.mk.inj (Option.some.inj hf)).1]
      exact ⟨vn.1, by simp⟩
     ·rw [if_neg h1] at hf
      by_cases h2 : c = 44
      ·rw [if_pos h2] at hf
       obtain ⟨t, rfl⟩ := fields_acc d _ y l x hf
       exact ⟨vn.1, by simp⟩
      ·rw [if_neg h2] at hf
       cases hf
  obtain ⟨v, hv⟩ := hm
  unfold endL
  simp only []
  rw [if_neg]
  intro hR
  unfold rightL at hR
  rw [Bool.and_eq_true] at hR
  have h2 := steps_ok l none hR.1 _ hv
  unfold okL at h2
  rw [Bool.and_eq_true] at h2
  have h3 : nameP a = true := by
   have := h2.1
   unfold mkL at this
   rwa [by_mk] at this
  cases a with
  | nil => simp at ha
  | cons c t =>
   unfold nameP at h3
   rw [Bool.and_eq_true, Bool.and_eq_true, decide_eq_true_eq] at h3
   have := h3.1.1
   simp at ha
   omega
theorem fields_one : ∀ (d : Nat) (acc : List Lab) (r : List UInt8), fieldsP (d + 1) acc r = fieldsP d acc r ∨ (fieldsP d acc r = none ∧ ∀ l x, fieldsP (d + 1) acc r = some (l, x) → l.length = acc.length + d + 1)
 | 0, acc, r => by
  refine .inr ⟨rfl, fun l x h => ?_⟩
  simp only [fieldsP] at h
  cases he : eqP r with
  | none => rw [he] at h; cases h
  | some ab =>
   rw [he] at h
   cases hg : getP ab.2 with
   | none => simp only [hg] at h; cases h
   | some vn =>
    simp only [hg] at h
    cases hdr : ab.2.drop vn.2 with
    | nil => simp only [hdr] at h; cases h
    | cons c y =>
     simp only [hdr] at h
     by_cases h1 : c = 125
     ·rw [if_pos h1] at h
      rw [← (Prod.mk.inj (Option.some.inj h)).1]
      simp
     ·rw [if_neg h1] at h
      split at h <;> cases h
 | d + 1, acc, r => by
  rw [fieldsP]
  rw [fieldsP.eq_2 acc r d]
  cases he : eqP r with
  | none => exact .inl rfl
  | some ab =>
   simp only []
   cases hg : getP ab.2 with
   | none => exact .inl rfl
   | some vn =>
    simp only []
    cases hdr : ab.2.drop vn.2 with
    | nil => exact .inl rfl
    | cons c y =>
     simp only []
     by_cases h1 : c = 125
     ·rw [if_pos h1, if_pos h1]
      exact .inl rfl
     ·rw [if_neg h1, if_neg h1]
      by_cases h2 : c = 44
      ·rw [if_pos h2, if_pos h2]
       rcases fields_one d (acc ++ [mkL ab.1 vn.1]) y with h | ⟨h, h3⟩
       ·exact .inl h
       ·refine .inr ⟨h, fun l x h4 => ?_⟩
        have := h3 l x h4
        rw [List.length_append, List.length_singleton] at this
        omega
      ·rw [if_neg h2, if_neg h2]
       exact .inl rfl
theorem fields_18 (z : Nat) (r : List UInt8) : endL z (fieldsP 18 [] r) = endL z (fieldsP 17 [] r) := by
 rcases fields_one 17 [] r with h | ⟨h, h2⟩
 ·rw [h]
 ·rw [h]
  cases hf : fieldsP 18 [] r with
  | none => rfl
  | some lx =>
   obtain ⟨l, x⟩ := lx
   have := h2 l x hf
   unfold endL
   simp only []
   rw [if_neg]
   unfold rightL
   rw [decide_eq_false (by simp at this; omega), Bool.and_false]
   simp
theorem om {p : Prop} (h : p := by (try clear hbt); (try clear hbt'); (try clear hw); (try clear hgv); (try clear e1); (try clear hw2); (try clear hbc); (try clear hw3); (try clear hw4); omega) : p := h
theorem refParse_loop (s : ByteArray) (hs : s.size < 140737488355328) : ∀ (d : Nat) (acc : List Lab) (p : Nat), acc.length + d = 18 → p ≤ s.size → (acc ≠ [] ∨ ((by_ s).drop p).head? ≠ some 125) →
  Ev (fun k => archivistref06_Parse.l0 k s (acc.map toR) (p : Int)) (RR (endL s.size (fieldsP d acc ((by_ s).drop p)))) := by
 have hb := by_length s
 intro d
 induction d with
 | zero =>
  intro acc p hd hp hh
  have hm : (acc.map toR).length = acc.length := List.length_map ..
  refine Ev.step (fun _ => rfl) ?_
  simp only [archivistref06_Parse.l0]
  refine Ev.neg (by omega) (Ev.bind (refRight_ev acc) (Ev.neg ?_ (Ev.now _)))
  unfold rightL
  rw [decide_eq_false (by omega), Bool.and_false]
  simp
 | succ d ih =>
  intro acc p hd hp hh
  have hm : (acc.map toR).length = acc.length := List.length_map ..
  obtain ⟨R, hR⟩ : ∃ R, R = RR (endL s.size (fieldsP (d + 1) acc ((by_ s).drop p))) := ⟨_, rfl⟩
  rw [← hR]
  have hscan : Ev (fun k => archivistref06_Parse.j4 k s (acc.map toR) (p : Int) ((p + scanN 33 ((by_ s).drop p) : Nat) : Int)) R := by
   cases he : eqP ((by_ s).drop p) with
   | none =>
    have hF : fieldsP (d + 1) acc ((by_ s).drop p) = none := by simp only [fieldsP, he]
    rw [hF] at hR
    rw [hR]
    refine j4_no s _ p _ ?_
    have := scan_none 33 _ (eqP_none he)
    rwa [List.getElem?_drop] at this
   | some ab =>
    obtain ⟨a, b⟩ := ab
    obtain ⟨hr, hna⟩ := eqP_some he
    obtain ⟨s1, s2⟩ := scan_some b 33 a hna
    rw [← hr] at s1 s2
    by_cases hal : 33 < a.length
    ·rw [long_bad s.size d acc _ a b he hal] at hR
     rw [hR]
     refine j4_no s _ p _ ?_
     have := s2 hal
     rwa [List.getElem?_drop] at this
    ·rw [s1 (by omega)]
     have hlen : (by_ s).length - p = a.length + (b.length + 1) := by
      have := congrArg List.length hr
      rw [List.length_drop] at this
      rw [this]
      simp
     have hg61 : (by_ s)[p + a.length]? = some 61 := by
      rw [← List.getElem?_drop, hr, List.getElem?_append_right (Nat.le_refl _), Nat.sub_self]
      rfl
     have hbt := bt_at_ s (p + a.length) 61 hg61
     have hbt' : bt s ((p + a.length : Nat) : Int) = 61 := hbt
     have hex : by_ (s.extract (p + a.length + 1) s.size) = b := by
      rw [by_extract, List.take_of_length_le om, show p + a.length + 1 = p + (a.length + 1) from rfl, ← List.drop_drop, hr]
      rw [show a ++ 61 :: b = (a ++ [61]) ++ b by simp, List.drop_left' (by simp)]
     have hnm : s.extract p (p + a.length) = ⟨a.toArray⟩ := by
      apply by_ext
      rw [by_extract, by_mk a, List.drop_take, hr, Nat.add_sub_cancel_left, List.take_left' rfl]
     have hw := w1 (p + a.length) om
     have hgv := refGet_ev (s.extract (p + a.length + 1) s.size) (by unfold SmallN; rw [← by_length, hex]; ((try clear hbt); (try clear hbt'); (try clear hw); (try clear hgv); (try clear e1); (try clear hw2); (try clear hbc); (try clear hw3); (try clear hw4); omega))
     rw [hex] at hgv
     refine Ev.step (fun _ => rfl) ?_
     simp only [archivistref06_Parse.j4]
     rw [hbt']
     refine Ev.neg om (Ev.pos om (Ev.pos om (Ev.step (fun _ => rfl) ?_)))
     simp only [archivistref06_Parse.j5]
     rw [hw, Int.toNat_natCast, Int.toNat_natCast, Int.toNat_natCast, hnm]
     refine Ev.neg (by decide) (Ev.pos om (Ev.pos om (Ev.bind hgv ?_)))
     cases hg : getP b with
     | none =>
      have hF : fieldsP (d + 1) acc ((by_ s).drop p) = none := by simp only [fieldsP, he, hg]
      rw [hF] at hR
      rw [hR]
      exact Ev.neg (by simp [getI]) (Ev.now _)
     | some vn =>
      obtain ⟨v, n⟩ := vn
      have hgl := getP_len' hg
      have e1 : (getI (some (v, n))).2.1 = (n : Int) := rfl
      have e2 : (getI (some (v, n))).1 = ⟨v.toArray⟩ := rfl
      have hw2 : wrap64 (((p + a.length + 1 : Nat) : Int) + (n : Int)) = ((p + a.length + 1 + n : Nat) : Int) := by rw [wrap_in om om]; ((try clear hbt); (try clear hbt'); (try clear hw); (try clear hgv); (try clear e1); (try clear hw2); (try clear hbc); (try clear hw3); (try clear hw4); omega)
      rw [e1, e2, hw2]
      refine Ev.pos rfl (Ev.pos om (Ev.pos om (Ev.pos om (Ev.pos om (Ev.one ?_)))))
      have hap : acc.map toR ++ [(⟨⟨a.toArray⟩, ⟨v.toArray⟩⟩ : RLab)] = (acc ++ [mkL a v]).map toR := by rw [List.map_append]; rfl
      rw [hap]
      have hj6 : ∀ q : Int, Ev (fun k => archivistref06_Parse.j6 k s ((acc ++ [mkL a v]).map toR) q true) (RR ([], 0, false)) := fun q => by
       refine Ev.step (fun _ => rfl) ?_
       simp only [archivistref06_Parse.j6]
       exact Ev.pos (by trivial) (Ev.now _)
      have hgd : ∀ m, (by_ s)[p + a.length + 1 + m]? = b[m]? := fun m => by
       rw [show p + a.length + 1 + m = p + (a.length + (m + 1)) by ((try clear hbt); (try clear hbt'); (try clear hw); (try clear hgv); (try clear e1); (try clear hw2); (try clear hbc); (try clear hw3); (try clear hw4); omega), ← List.getElem?_drop, hr, List.getElem?_append_right om, Nat.add_sub_cancel_left]
       rfl
      have hdd : ∀ m, (by_ s).drop (p + a.length + 1 + m) = b.drop m := fun m => by
       rw [← hex, by_extract, List.take_of_length_le om, List.drop_drop]
      cases hdr : b.drop n with
      | nil =>
       have hbn : b.length ≤ n := by
        rcases Nat.lt_or_ge n b.length with h | h
        ·rw [List.drop_eq_getElem_cons h] at hdr; cases hdr
        ·exact h
       have hF : fieldsP (d + 1) acc ((by_ s).drop p) = none := by simp only [fieldsP, he, hg, hdr]
       rw [hF] at hR
       rw [hR]
       exact Ev.pos om (hj6 _)
      | cons c x =>
       obtain ⟨hn, hcn, hx⟩ := drop_cons_get hdr
       have hbc : bt s ((p + a.length + 1 + n : Nat) : Int) = (c.toNat : Int) := bt_at_ s _ c (by rw [hgd, hcn])
       have hxx := hdd (n + 1)
       rw [hx, ← Nat.add_assoc] at hxx
       have hxl : x.length + (n + 1) = b.length := by rw [← hx, List.length_drop]; ((try clear hbt); (try clear hbt'); (try clear hw); (try clear hgv); (try clear e1); (try clear hw2); (try clear hbc); (try clear hw3); (try clear hw4); omega)
       have hF : fieldsP (d + 1) acc ((by_ s).drop p) = if c = 125 then some (acc ++ [mkL a v], x) else if c = 44 then fieldsP d (acc ++ [mkL a v]) x else none := by simp only [fieldsP, he, hg, hdr]
       rw [hF] at hR
       rw [hbc]
       have hw3 := w1 (p + a.length + 1 + n) om
       have hw4 : wrap64 (((p + a.length + 1 + n + 1 : Nat) : Int) - 1) = ((p + a.length + 1 + n : Nat) : Int) := by rw [wrap_in om om]; ((try clear hbt); (try clear hbt'); (try clear hw); (try clear hgv); (try clear e1); (try clear hw2); (try clear hbc); (try clear hw3); (try clear hw4); omega)
       refine Ev.neg om (Ev.pos om (Ev.pos om ?_))
       by_cases h44 : c = 44
       ·subst h44
        rw [if_neg (by decide), if_pos rfl] at hR
        refine Ev.pos rfl (Ev.step (fun _ => rfl) ?_)
        simp only [archivistref06_Parse.j6]
        rw [hw3, hw4, hbc]
        refine Ev.neg (by simp) (Ev.pos om (Ev.pos om (Ev.neg (by decide) ?_)))
        have h := ih (acc ++ [mkL a v]) (p + a.length + 1 + n + 1) (by rw [List.length_append, List.length_singleton]; ((try clear hbt); (try clear hbt'); (try clear hw); (try clear hgv); (try clear e1); (try clear hw2); (try clear hbc); (try clear hw3); (try clear hw4); omega)) om (.inl (by simp))
        rw [hxx] at h
        rw [hR]
        exact h
       ·refine Ev.neg (fun e => h44 (UInt8.toNat_inj.1 (by show c.toNat = 44; ((try clear hbt); (try clear hbt'); (try clear hw); (try clear hgv); (try clear e1); (try clear hw2); (try clear hbc); (try clear hw3); (try clear hw4); omega)))) ?_
        by_cases h125 : c = 125
        ·subst h125
         rw [if_pos rfl] at hR
         have e3 : ((((125 : UInt8).toNat : Int)) != 125) = false := by decide
         rw [e3]
         refine Ev.step (fun _ => rfl) ?_
         simp only [archivistref06_Parse.j6]
         rw [hw3, hw4, hbc]
         refine Ev.neg (by simp) (Ev.pos om (Ev.pos om (Ev.pos rfl (Ev.bind (refRight_ev (acc ++ [mkL a v])) ?_))))
         rw [hR]
         unfold endL
         simp only []
         cases hRt : rightL (acc ++ [mkL a v]) with
         | true =>
          refine Ev.pos rfl (Ev.ret ?_)
          rw [if_pos rfl]
          show ((acc ++ [mkL a v]).map toR, ((p + a.length + 1 + n + 1 : Nat) : Int), true) = ((acc ++ [mkL a v]).map toR, (s.size : Int) - (x.length : Int), true)
          have eN : ((p + a.length + 1 + n + 1 : Nat) : Int) = (s.size : Int) - (x.length : Int) := by ((try clear hbt); (try clear hbt'); (try clear hw); (try clear hgv); (try clear e1); (try clear hw2); (try clear hbc); (try clear hw3); (try clear hw4); omega)
          rw [eN]
         | false =>
          refine Ev.neg (by simp) (Ev.ret ?_)
          rw [if_neg (by simp)]
          rfl
        ·rw [if_neg h125, if_neg h44] at hR
         have e3 : (((c.toNat : Int)) != 125) = true := by
          rw [bne_iff_ne]
          intro e
          exact h125 (UInt8.toNat_inj.1 (by show c.toNat = 125; ((try clear hbt); (try clear hbt'); (try clear hw); (try clear hgv); (try clear e1); (try clear hw2); (try clear hbc); (try clear hw3); (try clear hw4); omega)))
         rw [e3, hR]
         exact hj6 _
  have hl1 : Ev (fun k => archivistref06_Parse.j2 k s (acc.map toR) (p : Int) false) R := by
   refine Ev.step (fun _ => rfl) ?_
   simp only [archivistref06_Parse.j2]
   exact Ev.neg (by simp) (scan_ev s hs _ p R 33 p rfl (Nat.le_refl _) hp hscan)
  refine Ev.step (fun _ => rfl) ?_
  simp only [archivistref06_Parse.l0]
  refine Ev.pos (by omega) ?_
  by_cases hlt : p < s.size
  ·have hlt2 : p < (by_ s).length := by omega
   refine Ev.pos (by omega) (Ev.pos (by omega) ?_)
   rw [bt_by s p hlt2]
   by_cases h125 : (((by_ s)[p]).toNat : Int) = 125
   ·have hne : acc ≠ [] := by
     rcases hh with h | h
     ·exact h
     ·rw [List.drop_eq_getElem_cons hlt2] at h
      exact absurd (congrArg some (UInt8.toNat_inj.1 (by show ((by_ s)[p]).toNat = 125; omega))) h
    have hpos : 0 < acc.length := List.length_pos_iff.2 hne
    have e0 : (((acc.map toR).length : Int) == 0) = false := by rw [beq_eq_false_iff_ne]; omega
    rw [e0]
    exact Ev.pos h125 hl1
   ·exact Ev.neg h125 hl1
  ·exact Ev.neg (by omega) hl1
theorem refParse_ev (s : ByteArray) (hs : s.size < 140737488355328) : Ev (fun k => archivistref06_Parse.f k s) (RR (parseL (by_ s))) := by
 have hb := by_length s
 unfold archivistref06_Parse.f
 rw [toList_by]
 unfold parseL
 cases hl : by_ s with
 | nil =>
  have e : pfxP [123, 125] ([] : List UInt8) = false := by decide
  rw [e, if_neg (by simp)]
  refine Ev.pos rfl (Ev.step (fun _ => rfl) ?_)
  simp only [archivistref06_Parse.j0]
  exact Ev.pos (by trivial) (Ev.now _)
 | cons c r =>
  rw [hl] at hb
  have hbt : bt s 0 = (c.toNat : Int) := bt_at_ s 0 c (by rw [hl]; rfl)
  rw [hbt]
  refine Ev.neg (by simp) (Ev.pos (by simp at hb; omega) ?_)
  by_cases hc : c = 123
  ·subst hc
   have e3 : ((((123 : UInt8).toNat : Int)) != 123) = false := by decide
   rw [e3]
   refine Ev.step (fun _ => rfl) ?_
   simp only [archivistref06_Parse.j0]
   refine Ev.neg (by simp) ?_
   have hd1 : (by_ s).drop 1 = r := by rw [hl]; rfl
   by_cases hp : pfxP [123, 125] (123 :: r) = true
   ·rw [if_pos hp]
    obtain ⟨x, rfl⟩ : ∃ x, r = 125 :: x := by
     cases r with
     | nil => exact absurd hp (by decide)
     | cons d x =>
      rw [pfx_two] at hp
      exact ⟨x, by rw [beq_iff_eq.1 hp]⟩
    have hb1 : bt s 1 = 125 := bt_at_ s 1 125 (by rw [hl]; rfl)
    simp only [List.length_cons] at hb
    refine Ev.step (fun _ => rfl) ?_
    simp only [archivistref06_Parse.l0]
    rw [hb1]
    refine Ev.pos (by simp) (Ev.pos (by omega) (Ev.pos (by omega) (Ev.pos rfl (Ev.step (fun _ => rfl) ?_))))
    simp only [archivistref06_Parse.j2]
    exact Ev.pos rfl (Ev.bind (refRight_ev []) (Ev.pos rfl (Ev.ret (by rw [wrap_in] <;> (first | omega | rfl)))))
   ·rw [if_neg hp]
    show Ev _ (RR (if (123 : UInt8) = 123 then endL (123 :: r).length (fieldsP 17 [] r) else ([], 0, false)))
    rw [if_pos rfl, hb, ← fields_18]
    have h := refParse_loop s hs 18 [] 1 rfl (by simp at hb; omega) (.inr (by
     rw [hd1]
     intro h
     cases r with
     | nil => simp at h
     | cons d x =>
      apply hp
      rw [pfx_two]
      exact beq_iff_eq.2 (Option.some.inj h)))
    rw [hd1] at h
    exact h
  ·have hp : ¬ pfxP [123, 125] (c :: r) = true := fun h => hc (by
    unfold pfxP at h
    cases r with
    | nil => simp at h
    | cons d x => simp at h; exact h.1)
   rw [if_neg hp]
   show Ev _ (RR (if c = 123 then endL (c :: r).length (fieldsP 17 [] r) else ([], 0, false)))
   have e3 : (((c.toNat : Int)) != 123) = true := by
    rw [bne_iff_ne]
    intro e
    exact hc (UInt8.toNat_inj.1 (by show c.toNat = 123; omega))
   rw [if_neg hc, e3]
   refine Ev.step (fun _ => rfl) ?_
   simp only [archivistref06_Parse.j0]
   exact Ev.pos (by trivial) (Ev.now _)
end Go.Proofs.Ytbkhgldinmabiaa.B
end
