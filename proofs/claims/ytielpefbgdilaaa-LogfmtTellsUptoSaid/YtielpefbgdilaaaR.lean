/-
  What the document's own answer to chapter 1 comes to: a byte as it is put, and a text in quotes, for the seat Ytielpefbgdilaaa.
-/
import Derived.Test.YtielpefbgdilaaaX15
import Derived.Test.YtielpefbgdilaaaX19
import Derived.Test.YtielpefbgdilaaaJ
set_option linter.unusedVariables false
set_option linter.unusedSimpArgs false
namespace Go.Proofs.Ytielpefbgdilaaa.B
open Go.RowKit Go.Proofs.Ytielpefbgdilaaa.X Go.Proofs.YtielpefbgdilaaaW.PrintWords Go.Proofs.YtielpefbgdilaaaW.PrintLast

theorem one_ev (b : UInt8) : Ev (fun k => archivistref01_one.f k (b.toNat : Int)) ⟨(oneP b).toArray⟩ := by
  refine Ev.of (k := 5) (archivistref01_one.mono _) ?_
  have h : ∀ n : Fin 256, archivistref01_one.f 5 ((UInt8.ofNat n.val).toNat : Int) = some ⟨(oneP (UInt8.ofNat n.val)).toArray⟩ := by decide +kernel
  have := h ⟨b.toNat, b.toNat_lt⟩
  simpa using this
/-! ### the document's Get -/
theorem ref_no (s : ByteArray) (x5 : List Int) (i b : Nat) (t : ByteArray) (R : ByteArray × Int × Bool) (hb : b < 256) (hi : i < s.size) (h1 : Ev (fun k => archivistref01_one.f k ((b : Int) % 256)) t)
    (m : Nat) (e2 : wrap64 ((i : Int) + (t.size : Int)) = ((i + m : Nat) : Int)) (hno : i + m ≤ s.size → ¬ (s.extract i (i + m)).toList = t.toList)
    (h : Ev (fun k => archivistref01_Get.l1 k s x5 (i : Int) false ((b + 1 : Nat) : Int)) R) : Ev (fun k => archivistref01_Get.l1 k s x5 (i : Int) false (b : Int)) R := by
  have e1 : wrap64 ((b : Int) + 1) = ((b + 1 : Nat) : Int) := by rw [wrap_in] <;> omega
  refine Ev.step (fun _ => rfl) ?_
  simp only [archivistref01_Get.l1]
  refine Ev.pos (by omega) (Ev.step (fun _ => rfl) ?_)
  simp only [archivistref01_Get.j4]
  refine Ev.pos (by decide) (Ev.bind h1 ?_)
  rw [e1, e2]
  by_cases hlen : i + m ≤ s.size
  · refine Ev.pos (Int.ofNat_le.2 hlen) (Ev.pos (Int.natCast_nonneg _) (Ev.pos (Int.ofNat_le.2 (Nat.le_add_right _ _)) ?_))
    rw [Int.toNat_natCast, Int.toNat_natCast]
    exact Ev.neg (hno hlen) h
  · exact Ev.neg (by omega) h
theorem ref_end (s : ByteArray) (x5 : List Int) (i b : Nat) (hb : b ≤ 256) (R : ByteArray × Int × Bool) (h : Ev (fun k => archivistref01_Get.l0 k s x5 (i : Int)) R) : Ev (fun k => archivistref01_Get.l1 k s x5 (i : Int) true (b : Int)) R := by
  refine Ev.step (fun _ => rfl) ?_
  simp only [archivistref01_Get.l1]
  by_cases h5 : (b : Int) < 256
  · refine Ev.pos h5 (Ev.step (fun _ => rfl) ?_)
    simp only [archivistref01_Get.j4]
    exact Ev.neg (by decide) (Ev.pos (by trivial) h)
  · refine Ev.neg h5 (Ev.step (fun _ => rfl) ?_)
    simp only [archivistref01_Get.j4]
    exact Ev.neg (by decide) (Ev.pos (by trivial) h)
theorem ref_yes (s : ByteArray) (x5 : List Int) (i b : Nat) (t : ByteArray) (R : ByteArray × Int × Bool) (hb : b < 256) (hi : i < s.size) (h1 : Ev (fun k => archivistref01_one.f k ((b : Int) % 256)) t)
    (m : Nat) (e2 : wrap64 ((i : Int) + (t.size : Int)) = ((i + m : Nat) : Int)) (hlen : i + m ≤ s.size) (hyes : (s.extract i (i + m)).toList = t.toList) (hx : x5.length < 140737488355328)
    (h : Ev (fun k => archivistref01_Get.l0 k s (x5 ++ [(b : Int) % 256]) ((i + m : Nat) : Int)) R) : Ev (fun k => archivistref01_Get.l1 k s x5 (i : Int) false (b : Int)) R := by
  have e1 : wrap64 ((b : Int) + 1) = ((b + 1 : Nat) : Int) := by rw [wrap_in] <;> omega
  refine Ev.step (fun _ => rfl) ?_
  simp only [archivistref01_Get.l1]
  refine Ev.pos (by omega) (Ev.step (fun _ => rfl) ?_)
  simp only [archivistref01_Get.j4]
  refine Ev.pos (by decide) (Ev.bind h1 ?_)
  rw [e1, e2]
  refine Ev.pos (Int.ofNat_le.2 hlen) (Ev.pos (Int.natCast_nonneg _) (Ev.pos (Int.ofNat_le.2 (Nat.le_add_right _ _)) ?_))
  rw [Int.toNat_natCast, Int.toNat_natCast]
  exact Ev.pos hyes (Ev.pos hx (ref_end s _ (i + m) (b + 1) (by omega) R h))
theorem le_of_sub_eq {i m x z : Nat} (hi : i < z) (h : z - i = m + x) : i + m ≤ z := by omega
theorem ref_scan (s : ByteArray) (hs : SmallN s.size) (i : Nat) (hi : i < s.size) (acc : List UInt8) (ha : acc.length ≤ i) (hq : ((by_ s).drop i).head? ≠ some 34) (R : ByteArray × Int × Bool)
    (H0 : decP ((by_ s).drop i) = none → R = (⟨#[]⟩, 0, false))
    (H1 : ∀ b n, decP ((by_ s).drop i) = some (b, n) → Ev (fun k => archivistref01_Get.l0 k s (up_ (acc ++ [b])) ((i + n : Nat) : Int)) R) : ∀ (d b : Nat), 256 - b = d → b ≤ 256 → (∀ b0 n, decP ((by_ s).drop i) = some (b0, n) → b ≤ b0.toNat) →
    Ev (fun k => archivistref01_Get.l1 k s (up_ acc) (i : Int) false (b : Int)) R := by
  intro d
  induction d with
  | zero =>
    intro b hd hb hlow
    have hb' : b = 256 := by omega
    subst hb'
    refine Ev.step (fun _ => rfl) ?_
    simp only [archivistref01_Get.l1]
    refine Ev.neg (by decide) (Ev.step (fun _ => rfl) ?_)
    simp only [archivistref01_Get.j4]
    refine Ev.neg (by decide) (Ev.neg (by decide) (Ev.ret ?_))
    refine (H0 ?_).symm
    cases h : decP ((by_ s).drop i) with
    | none => rfl
    | some q =>
      obtain ⟨b0, n⟩ := q
      have := hlow b0 n h
      have := b0.toNat_lt
      omega
  | succ d ih =>
    intro b hd hb hlow
    have hlt : b < 256 := by omega
    have hsi : SmallN i := hs.lt hi
    obtain ⟨c, hc⟩ : ∃ c, UInt8.ofNat b = c := ⟨_, rfl⟩
    have hcb : c.toNat = b := by rw [← hc]; simp; omega
    have eb : ((b : Int)) % 256 = (c.toNat : Int) := by omega
    have hup : up_ acc ++ [(b : Int) % 256] = up_ (acc ++ [c]) := by rw [eb]; simp [up_]
    obtain ⟨hl1, hl4⟩ := oneP_len c
    have hts : (⟨(oneP c).toArray⟩ : ByteArray).size = (oneP c).length := by rw [← by_length, by_mk]
    have e2 : wrap64 ((i : Int) + ((⟨(oneP c).toArray⟩ : ByteArray).size : Int)) = ((i + (oneP c).length : Nat) : Int) := by
      rw [hts]
      exact hsi.add _ hl4
    have hone : Ev (fun k => archivistref01_one.f k ((b : Int) % 256)) ⟨(oneP c).toArray⟩ := by
      rw [eb]
      exact one_ev c
    have e3 : (s.extract i (i + (oneP c).length)).toList = ((by_ s).drop i).take (oneP c).length := by
      rw [toList_by, by_extract, List.drop_take, Nat.add_sub_cancel_left]
    have e4 : (⟨(oneP c).toArray⟩ : ByteArray).toList = oneP c := by rw [toList_by, by_mk]
    by_cases hlen : i + (oneP c).length ≤ s.size ∧ ((by_ s).drop i).take (oneP c).length = oneP c
    · obtain ⟨hlen, hp⟩ := hlen
      have hdec : decP ((by_ s).drop i) = some (c, (oneP c).length) := by
        rw [← List.take_append_drop (oneP c).length ((by_ s).drop i), hp]
        exact dec_one c _
      refine ref_yes s _ i b _ R hlt hi hone _ e2 hlen (by rw [e3, e4, hp]) (hsi.up ha) ?_
      rw [hup]
      exact H1 c _ hdec
    · refine ref_no s _ i b _ R hlt hi hone _ e2 (fun h h2 => hlen ⟨h, e3.symm.trans (h2.trans e4)⟩) (ih (b + 1) (by omega) (by omega) fun b0 n h0 => ?_)
      have h1 := hlow b0 n h0
      by_cases h2 : b0.toNat = b
      · exfalso
        have h5 : b0 = c := UInt8.toNat_inj.1 (by omega)
        obtain ⟨h3, h4⟩ := one_dec h0 hq
        rw [h5] at h3
        have h6 := congrArg List.length h3
        rw [List.length_append, List.length_drop, by_length] at h6
        exact hlen ⟨le_of_sub_eq hi h6, by rw [h3, List.take_left]⟩
      · omega

theorem ref_loop (s : ByteArray) (hs : SmallN s.size) : ∀ (d i : Nat) (acc : List UInt8), s.size - i = d → i ≤ s.size → acc.length ≤ i →
    Ev (fun k => archivistref01_Get.l0 k s (up_ acc) (i : Int)) (getI ((unqP ((by_ s).drop i)).map fun r => (acc ++ r.1, r.2 + i))) := by
  intro d
  induction d using Nat.strongRecOn with
  | _ d ih =>
    intro i acc hd hi ha
    have hz := by_length s
    refine Ev.step (fun _ => rfl) ?_
    simp only [archivistref01_Get.l0]
    by_cases hlt : i < s.size
    · have hl2 : i < (by_ s).length := by omega
      have hbt := bt_by s i hl2
      obtain ⟨c, hc⟩ : ∃ c, (by_ s)[i] = c := ⟨_, rfl⟩
      rw [hc] at hbt
      have hdr := List.drop_eq_getElem_cons hl2
      rw [hc] at hdr
      rw [hbt]
      refine Ev.pos (by omega) (Ev.pos (by omega) (Ev.step (fun _ => rfl) ?_))
      simp only [archivistref01_Get.j2]
      by_cases hq : c.toNat = 34
      · have e1 : wrap64 ((i : Int) + 1) = ((i + 1 : Nat) : Int) := (hs.lt hlt).add 1 (by omega)
        refine Ev.neg (by simp; omega) (Ev.neg (by omega) (Ev.ret ?_))
        rw [hdr, unqP, if_pos hq, e1]
        simp only [Option.map_some, getI, List.append_nil, nums_up]
        rw [Nat.add_comm]
      · refine Ev.pos (by simp; omega) ?_
        have hh : ((by_ s).drop i).head? ≠ some 34 := by
          rw [hdr]
          simp
          exact fun e => hq (by rw [e]; rfl)
        refine ref_scan s hs i hlt acc ha hh _ (fun h => ?_) (fun b n h => ?_) 256 0 rfl (by omega) (fun _ _ _ => by omega)
        · rw [hdr] at h ⊢
          rw [unqP, if_neg hq, h]
          rfl
        · have hn := decP_len h
          rw [List.length_drop] at hn
          have h2 := ih (s.size - (i + n)) (by omega) (i + n) (acc ++ [b]) rfl (by omega) (by rw [List.length_append, List.length_singleton]; omega)
          rw [← List.drop_drop] at h2
          have e : ((unqP ((by_ s).drop i)).map fun r => (acc ++ r.1, r.2 + i)) = ((unqP (((by_ s).drop i).drop n)).map fun r => (acc ++ [b] ++ r.1, r.2 + (i + n))) := by
            rw [hdr] at h ⊢
            rw [unqP, if_neg hq, h]
            obtain ⟨m, rfl⟩ : ∃ m, n = m + 1 := ⟨n - 1, by omega⟩
            simp only [Nat.add_sub_cancel, List.drop_succ_cons, Option.map_map]
            congr 1
            funext r
            simp
            omega
          rw [e]
          exact h2
    · rw [List.drop_of_length_le (by omega), unqP]
      refine Ev.neg (by omega) (Ev.step (fun _ => rfl) ?_)
      simp only [archivistref01_Get.j2]
      exact Ev.neg (by decide) (Ev.pos (by omega) (Ev.now _))
theorem refGet_ev (s : ByteArray) (hs : SmallN s.size) : Ev (fun k => archivistref01_Get.f k s) (getI (getP (by_ s))) := by
  have hz := by_length s
  unfold archivistref01_Get.f
  rw [toList_by]
  cases hb : by_ s with
  | nil => exact Ev.pos rfl (Ev.step (f := fun _ => some (⟨#[]⟩, 0, false)) (fun _ => by simp [archivistref01_Get.j0]) (Ev.now _))
  | cons c l =>
    have hl : 0 < (by_ s).length := by rw [hb]; simp
    have hbt := bt_by s 0 hl
    have h0 : (by_ s)[0] = c := by simp [hb]
    rw [h0] at hbt
    refine Ev.neg (by simp) (Ev.pos (by omega) (Ev.step (fun _ => rfl) ?_))
    simp only [archivistref01_Get.j0]
    have hbt' : bt s 0 = (c.toNat : Int) := hbt
    rw [hbt', getP]
    by_cases hq : c.toNat = 34
    · rw [if_pos hq]
      refine Ev.neg (by simp; omega) ?_
      have h := ref_loop s hs (s.size - 1) 1 [] rfl (by omega) (by simp)
      rw [hb] at h
      simpa [up_] using h
    · rw [if_neg hq]
      exact Ev.pos (by simp; omega) (Ev.now _)
end Go.Proofs.Ytielpefbgdilaaa.B
