/-
  The law of spaces between fields, for the seat Ytielpefbgdilaaa.
-/
import Derived.Test.YtielpefbgdilaaaX18
import Derived.Test.YtielpefbgdilaaaRwLogfmtSpaces
import Derived.Test.YtielpefbgdilaaaJ
set_option linter.unusedVariables false
set_option linter.unusedSimpArgs false
namespace Go.Proofs.Ytielpefbgdilaaa.Pure
open Go.RowKit Go.Proofs.Ytielpefbgdilaaa.X Go.Proofs.Ytielpefbgdilaaa.B Go.Proofs.YtielpefbgdilaaaW.PrintWords Go.Proofs.YtielpefbgdilaaaW.PrintLast

theorem sum_memS {α : Type} (f : α → Nat) : ∀ {l : List α} {y : α}, y ∈ l → f y ≤ (l.map f).sum
  | x :: l, y, h => by
    rw [List.map_cons, List.sum_cons]
    rcases List.mem_cons.1 h with rfl | h
    · omega
    · have := sum_memS f h
      omega
def padF (pad : List UInt8) (l : List Lab) : List UInt8 := l.flatMap fun p => fieldB p ++ 32 :: pad
theorem padF_app (pad : List UInt8) (l r : List Lab) : padF pad (l ++ r) = padF pad l ++ padF pad r := by simp [padF]
theorem allW_padF (pad : List UInt8) (hpad : ∀ b ∈ pad, sps.contains b = true) : ∀ (ps l : List Lab), (∀ p ∈ ps, okF p) → l.length + ps.length < 64 → allW (padF pad ps) l = l ++ ps
  | [], l, _, _ => by
    have e : padF pad [] = [] := rfl
    rw [e, allW_nil, List.append_nil]
  | p :: ps, l, h, hl => by
    simp only [List.length_cons] at hl
    have e : padF pad (p :: ps) = fieldB p ++ ((32 :: pad) ++ padF pad ps) := by simp [padF]
    rw [e, allW_put p (h p (by simp)) _ l (by omega), allW_pad (32 :: pad) _ _ (fun b hb => by
      rcases List.mem_cons.1 hb with rfl | hb
      · decide
      · exact hpad b hb) (by simp; omega), allW_padF pad hpad ps (l ++ [p]) (fun q hq => h q (by simp [hq])) (by simp; omega)]
    simp
theorem steps_okS : ∀ (l : List Lab) (q : Option Lab), stepsB q l = true → ∀ p ∈ l, okL p = true
  | [], _, _, _, h => by simp at h
  | x :: l, q, h, p, hp => by
    have h2 : okL x = true ∧ stepsB (some x) l = true := by
      cases q with
      | none => simpa [stepsB] using h
      | some y =>
        simp only [stepsB, Bool.and_eq_true] at h
        exact ⟨h.1, h.2.2⟩
    rcases List.mem_cons.1 hp with rfl | hp
    · exact h2.1
    · exact steps_okS l _ h2.2 p hp
theorem sp_asc {pad : List UInt8} (hpad : ∀ b ∈ pad, sps.contains b = true) : Asc pad := fun b hb => by
  have hh : ∀ n : Fin 256, sps.contains (UInt8.ofNat n.val) = true → (UInt8.ofNat n.val).toNat < 128 := by decide +kernel
  have := hh ⟨b.toNat, b.toNat_lt⟩
  simp only [UInt8.ofNat_toNat] at this
  exact this (hpad b hb)
theorem padF_asc {pad : List UInt8} (hpad : ∀ b ∈ pad, sps.contains b = true) : ∀ ps : List Lab, (∀ p ∈ ps, nameP (by_ p.f0) = true) → Asc (padF pad ps)
  | [], _ => Asc.nil
  | p :: ps, h => by
    have e : padF pad (p :: ps) = fieldB p ++ (([32] ++ pad) ++ padF pad ps) := by simp [padF]
    rw [e]
    exact Asc.app (fieldB_asc p (h p (by simp))) (Asc.app (Asc.app (by unfold Asc; decide) (sp_asc hpad)) (padF_asc hpad ps (fun q hq => h q (by simp [hq]))))
theorem lsp_l1 (L P : List Lab) (hP : P = ofP [] L) (hl : P.length ≤ 12) (hz : ∀ p ∈ P, p.f0.size ≤ 32 ∧ p.f1.size ≤ 1048576) (pad : ByteArray) (hpad : ∀ b ∈ by_ pad, sps.contains b = true) (hpl : pad.size ≤ 5) :
    ∀ (d i : Nat) (s : ByteArray), P.length - i = d → i ≤ P.length → by_ s = by_ pad ++ padF (by_ pad) (P.take i) → s.size ≤ 5 + 10000000 * i →
    Ev (fun k => archivistlaw10_LogfmtSpaces.l1 k true P pad s (i : Int)) true := by
  have hnames : ∀ p ∈ P, nameP (by_ p.f0) = true := by rw [hP]; exact of_names L
  intro d
  induction d with
  | zero =>
    intro i s hd hi hs hsz
    refine Ev.step (fun _ => rfl) ?_
    simp only [archivistlaw10_LogfmtSpaces.l1]
    rw [List.take_of_length_le (by omega)] at hs
    have ho := of10_ev s (by omega) (by rw [hs]; exact Asc.app (sp_asc hpad) (padF_asc hpad P hnames))
    refine Ev.neg (by omega) (Ev.bind ho (Ev.pos (by first | trivial | rfl) (Ev.bind (right_ev P (by omega)) ?_)))
    cases hR : rightL P with
    | false => exact Ev.neg (by simp) (Ev.now _)
    | true =>
      refine Ev.pos rfl (Ev.bind (same_ev _ P (by have := (ofW_right (by_ s)).2; omega)) (Ev.ret (decide_eq_true ?_)))
      have hok : ∀ p ∈ P, okF p := fun p hp => by
        unfold rightL at hR
        rw [Bool.and_eq_true] at hR
        have h := steps_okS P none hR.1 p hp
        unfold okL at h
        rw [Bool.and_eq_true, decide_eq_true_eq] at h
        exact h
      unfold ofW
      rw [hs, allW_pad (by_ pad) _ [] hpad (by simp), allW_padF _ hpad P [] hok (by simp; omega), List.nil_append]
      have hb : ofP [] P.reverse = P := by rw [hP]; exact of_back L
      rw [hb, List.take_of_length_le (by omega)]
  | succ d ih =>
    intro i s hd hi hs hsz
    have hlt : i < P.length := by omega
    have hp := hz P[i] (List.getElem_mem hlt)
    have hb := fieldB_len P[i]
    have hput := putF_ev [⟨P[i].f0, P[i].f1⟩] (by simp) (fun q hq => by rw [List.mem_singleton] at hq; subst hq; exact ⟨show P[i].f0.size ≤ 1048576 by omega, show P[i].f1.size ≤ 1048576 by omega⟩)
    have e1 : putF [(⟨P[i].f0, P[i].f1⟩ : Lab)] = fieldB P[i] := by simp [putF, sufF]
    rw [e1] at hput
    have hsz1 : (⟨(fieldB P[i]).toArray⟩ : ByteArray).size = (fieldB P[i]).length := by rw [← by_length, by_mk]
    have hone : (⟨#[32]⟩ : ByteArray).size = 1 := rfl
    refine Ev.step (fun _ => rfl) ?_
    simp only [archivistlaw10_LogfmtSpaces.l1]
    rw [rdLab P i hlt, w1 i (by omega)]
    refine Ev.pos (by omega) (Ev.pos (by omega) (Ev.bind hput (Ev.pos (by omega) (Ev.pos (by rw [ByteArray.size_append]; omega) (Ev.pos (by simp only [ByteArray.size_append]; omega) (ih (i + 1) _ (by omega) (by omega) ?_ ?_))))))
    · simp only [by_append, by_mk, hs]
      rw [List.take_succ_eq_append_getElem hlt, padF_app, by_lit]
      simp [padF]
    · simp only [ByteArray.size_append]
      omega
theorem spb : ∀ i : Fin 3, sps.contains (UInt8.ofNat (bt (⟨#[32, 9, 10]⟩ : ByteArray) (i.val : Int)).toNat) = true := by decide +kernel
theorem lsp_l0 (L P : List Lab) (hP : P = ofP [] L) (hl : P.length ≤ 12) (hz : ∀ p ∈ P, p.f0.size ≤ 32 ∧ p.f1.size ≤ 1048576) (m : Int) (M : Nat) (hm : wrap64 (Int.tmod m 6) = (M : Int)) (hM : M ≤ 5) :
    ∀ (d i : Nat) (pad : ByteArray), M - i = d → i ≤ M → (∀ b ∈ by_ pad, sps.contains b = true) → pad.size ≤ i →
    Ev (fun k => archivistlaw10_LogfmtSpaces.l0 k m true P pad (i : Int)) true := by
  intro d
  induction d with
  | zero =>
    intro i pad hd hi hpad hs
    refine Ev.step (fun _ => rfl) ?_
    simp only [archivistlaw10_LogfmtSpaces.l0]
    rw [hm]
    exact Ev.neg (by omega) (lsp_l1 L P hP hl hz pad hpad (by omega) P.length 0 pad rfl (Nat.zero_le _) (by simp [padF]) (by omega))
  | succ d ih =>
    intro i pad hd hi hpad hs
    refine Ev.step (fun _ => rfl) ?_
    simp only [archivistlaw10_LogfmtSpaces.l0]
    have e3 : Int.tmod (i : Int) 3 = ((i % 3 : Nat) : Int) := rfl
    have h3 := Nat.mod_lt i (show 3 > 0 by decide)
    have hsp := spb ⟨i % 3, h3⟩
    rw [hm, w1 i (by omega), e3]
    have z1 : (strOfNums [bt (⟨#[32, 9, 10]⟩ : ByteArray) ((i % 3 : Nat) : Int)]).size = 1 := size_nums _
    refine Ev.pos (by omega) (Ev.pos (by omega) (Ev.pos (by omega) (Ev.one (Ev.pos (by omega) (ih (i + 1) _ (by omega) (by omega) ?_ (by rw [ByteArray.size_append]; omega))))))
    intro b hb
    rw [by_append, by_nums] at hb
    rcases List.mem_append.1 hb with hb | hb
    · exact hpad b hb
    · simp only [List.map_cons, List.map_nil, List.mem_singleton] at hb
      subst hb
      exact hsp
theorem LogfmtSpaces : archivistlaw10_LogfmtSpaces.PureU := by
  intro x m gx hgm hu
  have hx : ∀ p ∈ x, p.f0.f0.size ≤ 1048576 ∧ p.f0.f1.size ≤ 1048576 := fun p hp => by
    have := sum_memS (fun y0 => m41 y0) hp
    unfold m41 m39 at this hu
    omega
  refine Ev.rounds ?_
  unfold archivistlaw10_LogfmtSpaces.f
  obtain ⟨L, hL, dL, hl⟩ := tags_ev x (fun y hy => (gx.2 y hy).2.2) 12 (by omega)
  have hvals : ∀ p ∈ ofP [] L, p.f1.size ≤ 1048576 := ofP_all (fun p => p.f1.size ≤ 1048576) L [] (by simp) (fun p hp => by
    rcases dL p hp with ⟨q, hq, e1, e2⟩ | h
    · have := hx q hq
      rw [e2]
      exact this.2
    · omega)
  have hlen := of_len L
  simp [Lit.wf, IntKind.min, IntKind.max, IntKind.bits, IntKind.signed] at hgm
  obtain ⟨M, rfl⟩ : ∃ M : Nat, m = (M : Int) := ⟨m.toNat, by omega⟩
  have e1 : Int.tmod (M : Int) 6 = ((M % 6 : Nat) : Int) := rfl
  have hlt := Nat.mod_lt M (show 6 > 0 by decide)
  refine Ev.bind examples10_ev (Ev.pos (by trivial) (Ev.bind hl (Ev.bind (of_ev L (by omega)) ?_)))
  exact lsp_l0 L (ofP [] L) rfl (by omega) (fun p hp => ⟨by rw [← by_length]; exact (nameP_all (of_names L p hp)).2.2, hvals p hp⟩) _ (M % 6) (by rw [e1, wrap_in] <;> omega) (by omega) _ 0 ⟨#[]⟩ rfl (Nat.zero_le _) (fun b hb => by simp [by_] at hb) (by decide)
end Go.Proofs.Ytielpefbgdilaaa.Pure
