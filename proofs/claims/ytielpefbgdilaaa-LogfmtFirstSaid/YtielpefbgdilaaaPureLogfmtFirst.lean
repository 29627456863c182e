/-
  The law of the first of a name, for the seat Ytielpefbgdilaaa.
-/
import Derived.Test.YtielpefbgdilaaaX16
import Derived.Test.YtielpefbgdilaaaRwLogfmtFirst
import Derived.Test.YtielpefbgdilaaaJ
set_option linter.unusedVariables false
set_option linter.unusedSimpArgs false
namespace Go.Proofs.Ytielpefbgdilaaa.Pure
open Go.RowKit Go.Proofs.Ytielpefbgdilaaa.X Go.Proofs.Ytielpefbgdilaaa.B Go.Proofs.YtielpefbgdilaaaW.PrintWords Go.Proofs.YtielpefbgdilaaaW.PrintLast

theorem tag_own : ∀ k : Fin 256, (match archivistlaw10_Tag_tag.f ByteArray.empty ByteArray.empty true (k.val : Int) with | some p => nameP (by_ p.1) && decide (p.2.size ≤ 3) | none => false) = true := by decide +kernel
theorem tag_ownf (n v : ByteArray) (K : Int) (h0 : 0 ≤ K) (h1 : K < 256) : ∃ p : ByteArray × ByteArray, archivistlaw10_Tag_tag.f n v true K = some p ∧ nameP (by_ p.1) = true ∧ p.2.size ≤ 3 := by
  obtain ⟨m, rfl⟩ := Int.eq_ofNat_of_zero_le h0
  have h := tag_own ⟨m, by omega⟩
  have e : archivistlaw10_Tag_tag.f n v true (m : Int) = archivistlaw10_Tag_tag.f ByteArray.empty ByteArray.empty true (m : Int) := rfl
  rw [e]
  dsimp only at h
  split at h
  · rename_i p hp
    rw [Bool.and_eq_true, decide_eq_true_eq] at h
    exact ⟨p, hp, h.1, h.2⟩
  · cases h
theorem lf_l1 (A B : List Lab) (hB : B.length ≤ 16) (hA : A.length ≤ 16) (hAB : A.length ≤ B.length) (hg : ∀ p ∈ A, getL B p.f0 = some p.f1) : ∀ (d i : Nat), A.length - i = d → i ≤ A.length →
    Ev (fun k => archivistlaw10_LogfmtFirst.l1 k true A B (i : Int)) true := by
  intro d
  induction d with
  | zero =>
    intro i hd hi
    refine Ev.step (fun _ => rfl) ?_
    simp only [archivistlaw10_LogfmtFirst.l1]
    have ho := of10_ev ⟨#[]⟩ (by decide) (by unfold Asc; decide)
    have e : ofW (by_ (⟨#[]⟩ : ByteArray)) = [] := by
      have : by_ (⟨#[]⟩ : ByteArray) = [] := rfl
      unfold ofW
      rw [this, allW_nil]
      rfl
    rw [e] at ho
    exact Ev.neg (by omega) (Ev.pos (by first | trivial | rfl) (Ev.pos (by omega) (Ev.bind ho (Ev.ret rfl))))
  | succ d ih =>
    intro i hd hi
    have hlt : i < A.length := by omega
    have hget := getSet_ev B (by omega) A[i].f0
    rw [hg A[i] (List.getElem_mem hlt)] at hget
    refine Ev.step (fun _ => rfl) ?_
    simp only [archivistlaw10_LogfmtFirst.l1]
    rw [rdLab A i hlt, w1 i (by omega)]
    exact Ev.pos (by omega) (Ev.pos (by omega) (Ev.bind hget (Ev.pos rfl (Ev.pos rfl (ih (i + 1) (by omega) (by omega))))))
theorem lf_end (x : List Int) (L : ByteArray) (hL : L.size ≤ 360) (hLa : Asc (by_ L)) (hx : Ev (fun k => archivistlaw10_line.f k x) L) (p : List Lab) (hp : p.length ≤ 10) (hok : ∀ q ∈ p, okF q) : Ev (fun k => archivistlaw10_LogfmtFirst.j1 k x true p) true := by
  have hz : ∀ q ∈ p, q.f0.size ≤ 32 ∧ q.f1.size ≤ 256 := fun q hq => ⟨by rw [← by_length]; exact (nameP_all (hok q hq).1).2.2, (hok q hq).2⟩
  have hlen := putF_len 1059 p (fun q hq => by have := fieldB_len q; have := hz q hq; omega)
  have hmul : p.length * (1059 + 1) ≤ 10 * (1059 + 1) := Nat.mul_le_mul_right _ hp
  have hasc := putF_asc p (fun q hq => (hok q hq).1)
  have hsz : (⟨(putF p).toArray⟩ : ByteArray).size = (putF p).length := by rw [← by_length, by_mk]
  have hone : (⟨#[32]⟩ : ByteArray).size = 1 := rfl
  have hall : allW (putF p) [] = p := by
    have h := allW_puts p [] hok (by omega)
    rwa [List.append_nil, allW_nil] at h
  have ho := of10_ev ⟨(putF p).toArray⟩ (by omega) (by rw [by_mk]; exact hasc)
  have e2 : by_ (((⟨(putF p).toArray⟩ : ByteArray) ++ (⟨#[32]⟩ : ByteArray)) ++ L) = putF p ++ 32 :: by_ L := by
    rw [by_append, by_append, by_mk, by_lit]
    simp
  have hob := of10_ev (((⟨(putF p).toArray⟩ : ByteArray) ++ (⟨#[32]⟩ : ByteArray)) ++ L) (by simp only [ByteArray.size_append]; omega) (by rw [e2]; exact Asc.app hasc (Asc.app (s := [32]) (by unfold Asc; decide) hLa))
  rw [e2] at hob
  rw [by_mk] at ho
  obtain ⟨hRb, hSb⟩ := ofW_right (putF p ++ 32 :: by_ L)
  have hA : ofW (putF p) = ofP [] p.reverse := by
    unfold ofW
    rw [hall, List.take_of_length_le]
    have := of_len p.reverse
    rw [List.length_reverse] at this
    omega
  rw [hA] at ho
  have hAl := of_len p.reverse
  rw [List.length_reverse] at hAl
  refine Ev.step (fun _ => rfl) ?_
  simp only [archivistlaw10_LogfmtFirst.j1]
  refine Ev.bind (putF_ev p (by omega) (fun q hq => by have := hz q hq; omega)) (Ev.bind ho (Ev.pos (by omega) (Ev.bind hx (Ev.pos (by simp only [ByteArray.size_append]; omega) (Ev.bind hob ?_)))))
  by_cases h16 : (ofW (putF p ++ 32 :: by_ L)).length ≥ 16
  · exact Ev.pos (by omega) (Ev.now _)
  refine Ev.neg (by omega) ?_
  obtain ⟨y, hy, _, _⟩ := allW_lab _ (32 :: by_ L) p (Nat.le_refl _) (by omega)
  have hB : ofW (putF p ++ 32 :: by_ L) = ofP [] (p ++ y).reverse := by
    unfold ofW at h16 ⊢
    rw [allW_puts p _ hok (by omega), hy] at h16 ⊢
    rw [List.length_take] at h16
    rw [List.take_of_length_le (by omega)]
  have hg : ∀ q ∈ ofP [] p.reverse, getL (ofW (putF p ++ 32 :: by_ L)) q.f0 = some q.f1 := by
    intro q hq
    have hn := of_names p.reverse q hq
    have h1 := getL_mem (of_rise p.reverse) hq
    rw [of_get, if_pos hn, List.reverse_reverse] at h1
    rw [hB, of_get, if_pos hn, List.reverse_reverse, getL_append, h1]
    rfl
  refine lf_l1 _ _ hSb (by omega) (rise_le _ _ (of_rise _) (by rw [hB]; exact of_rise _) (fun a ha => ?_)) hg _ 0 rfl (Nat.zero_le _)
  obtain ⟨z, hz1, hz2, _⟩ := getL_some (hg a ha)
  exact ⟨z, hz1, hz2⟩
theorem lf_l0 (x0 : List Tg) (hg : ∀ y ∈ x0, 0 ≤ y.f2 ∧ y.f2 < 256) (x : List Int) (L : ByteArray) (hL : L.size ≤ 360) (hLa : Asc (by_ L)) (hx : Ev (fun k => archivistlaw10_line.f k x) L) : ∀ (d i : Nat) (p : List Lab), 10 - i = d → i ≤ 10 → p.length ≤ i → (∀ q ∈ p, okF q) →
    Ev (fun k => archivistlaw10_LogfmtFirst.l0 k x0 x true p (i : Int)) true := by
  intro d
  induction d with
  | zero =>
    intro i p hd hi hp hok
    refine Ev.step (fun _ => rfl) ?_
    simp only [archivistlaw10_LogfmtFirst.l0]
    have h := lf_end x L hL hLa hx p (by omega) hok
    by_cases h1 : (i : Int) < (x0.length : Int)
    · exact Ev.pos h1 (Ev.neg (by omega) h)
    · exact Ev.neg h1 h
  | succ d ih =>
    intro i p hd hi hp hok
    refine Ev.step (fun _ => rfl) ?_
    simp only [archivistlaw10_LogfmtFirst.l0]
    by_cases h : i < x0.length
    · have hy := hg x0[i] (List.getElem_mem h)
      obtain ⟨t, ht, htn, htv⟩ := tag_ownf x0[i].f0.f0 x0[i].f0.f1 x0[i].f2 hy.1 hy.2
      rw [rdTag x0 i h, ht, w1 i (by omega)]
      refine Ev.pos (by omega) (Ev.pos (by omega) (Ev.pos (by omega) (Ev.one (Ev.pos (by omega) (ih (i + 1) _ (by omega) (by omega) (by rw [List.length_append]; simp; omega) ?_)))))
      intro q hq
      rcases List.mem_append.1 hq with hq | hq
      · exact hok q hq
      · rw [List.mem_singleton] at hq
        subst hq
        exact ⟨htn, show t.2.size ≤ 256 by omega⟩
    · exact Ev.neg (by omega) (lf_end x L hL hLa hx p (by omega) hok)
theorem LogfmtFirst : archivistlaw10_LogfmtFirst.PureS := by
  intro x0 x hg hgx _ _
  refine Ev.rounds ?_
  unfold archivistlaw10_LogfmtFirst.f
  obtain ⟨L, hL, hLa, hx⟩ := line_ev x hgx.2
  refine Ev.bind examples10_ev (Ev.pos (by trivial) (lf_l0 x0 (fun y hy => ?_) x L hL hLa hx 10 0 [] rfl (Nat.zero_le _) (Nat.le_refl _) (fun q hq => by simp at hq)))
  have h := (hg.2 y hy).2.2
  simp [Lit.wf, IntKind.min, IntKind.max, IntKind.bits, IntKind.signed] at h
  omega
end Go.Proofs.Ytielpefbgdilaaa.Pure
