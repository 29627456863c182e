/-
  The law of long lines, for the seat Ytielpefbgdilaaa.
-/
import Derived.Test.YtielpefbgdilaaaX17
import Derived.Test.YtielpefbgdilaaaRwLogfmtMany
import Derived.Test.YtielpefbgdilaaaJ
set_option linter.unusedVariables false
set_option linter.unusedSimpArgs false
namespace Go.Proofs.Ytielpefbgdilaaa.Pure
open Go.RowKit Go.Proofs.Ytielpefbgdilaaa.X Go.Proofs.Ytielpefbgdilaaa.B Go.Proofs.YtielpefbgdilaaaW.PrintWords Go.Proofs.YtielpefbgdilaaaW.PrintLast

theorem lm_l1 (s : ByteArray) (hs : s.size < 4294967281) (ha : Asc (by_ s)) (l : List Lab) (hl : l = allW (by_ s) []) : ∀ (d i : Nat), l.length - i = d → i ≤ l.length →
    Ev (fun k => archivistlaw10_LogfmtMany.l1 k true s l (i : Int)) true := by
  obtain ⟨h64, hok⟩ := all_ok (by_ s)
  rw [← hl] at h64 hok
  intro d
  induction d with
  | zero =>
    intro i hd hi
    refine Ev.step (fun _ => rfl) ?_
    simp only [archivistlaw10_LogfmtMany.l1]
    have ho := of10_ev s hs ha
    obtain ⟨hR, h16⟩ := ofW_right (by_ s)
    have h := right_ev (ofW (by_ s)) (by omega)
    rw [hR] at h
    exact Ev.neg (by omega) (Ev.pos (by first | trivial | rfl) (Ev.pos (by omega) (Ev.bind ho (Ev.pos (by omega) (Ev.bind ho (Ev.bind h (Ev.now _)))))))
  | succ d ih =>
    intro i hd hi
    have hlt : i < l.length := by omega
    have hp := hok l[i] (List.getElem_mem hlt)
    have hn := name_ev l[i].f0
    rw [hp.1] at hn
    refine Ev.step (fun _ => rfl) ?_
    simp only [archivistlaw10_LogfmtMany.l1]
    rw [rdLab l i hlt, w1 i (by omega)]
    exact Ev.pos (by omega) (Ev.pos (by omega) (Ev.bind hn (Ev.pos rfl (Ev.neg (by have := hp.2; omega) (ih (i + 1) (by omega) (by omega))))))
theorem lm_l0 (x : List Int) (L : ByteArray) (hL : L.size ≤ 360) (hLa : Asc (by_ L)) (hx : Ev (fun k => archivistlaw10_line.f k x) L) (m : Int) (M : Nat) (hm : wrap64 (Int.tmod m 20) = (M : Int)) (hM : M ≤ 19) : ∀ (d i : Nat) (s : ByteArray), M - i = d → i ≤ M → s.size ≤ 365 * i → Asc (by_ s) →
    Ev (fun k => archivistlaw10_LogfmtMany.l0 k x m true s (i : Int)) true := by
  intro d
  induction d with
  | zero =>
    intro i s hd hi hs ha
    refine Ev.step (fun _ => rfl) ?_
    simp only [archivistlaw10_LogfmtMany.l0]
    rw [hm]
    exact Ev.neg (by omega) (Ev.bind (all_ev s (by omega) ha) (lm_l1 s (by omega) ha _ rfl _ 0 rfl (Nat.zero_le _)))
  | succ d ih =>
    intro i s hd hi hs ha
    refine Ev.step (fun _ => rfl) ?_
    simp only [archivistlaw10_LogfmtMany.l0]
    rw [hm, w1 i (by omega)]
    have e1 : (97 + ((i : Int)) % 256) % 256 = ((97 + i : Nat) : Int) := by omega
    rw [e1]
    have z1 : (strOfNums [((97 + i : Nat) : Int)]).size = 1 := size_nums _
    have b1 : by_ (strOfNums [((97 + i : Nat) : Int)]) = [UInt8.ofNat (97 + i)] := by rw [by_nums]; rfl
    have z2 : (⟨#[32, 107]⟩ : ByteArray).size = 2 := rfl
    have z3 : (⟨#[61, 118]⟩ : ByteArray).size = 2 := rfl
    refine Ev.pos (by omega) (Ev.bind hx (Ev.pos (by omega) (Ev.pos (by rw [ByteArray.size_append]; omega) (Ev.one (Ev.pos (by simp only [ByteArray.size_append]; omega) (Ev.pos (by simp only [ByteArray.size_append]; omega) ?_))))))
    refine ih (i + 1) _ (by omega) (by omega) (by simp only [ByteArray.size_append]; omega) ?_
    simp only [by_append, b1]
    refine Asc.app (Asc.app (Asc.app (Asc.app ha hLa) (by unfold Asc; decide)) ?_) (by unfold Asc; decide)
    intro b hb
    rw [List.mem_singleton] at hb
    subst hb
    rw [UInt8.toNat_ofNat']
    omega
theorem LogfmtMany : archivistlaw10_LogfmtMany.PureS := by
  intro x m hg hgm _
  refine Ev.rounds ?_
  unfold archivistlaw10_LogfmtMany.f
  obtain ⟨L, hL, hLa, hx⟩ := line_ev x hg.2
  simp [Lit.wf, IntKind.min, IntKind.max, IntKind.bits, IntKind.signed] at hgm
  obtain ⟨M, rfl⟩ : ∃ M : Nat, m = (M : Int) := ⟨m.toNat, by omega⟩
  have e1 : Int.tmod (M : Int) 20 = ((M % 20 : Nat) : Int) := rfl
  have hlt := Nat.mod_lt M (show 20 > 0 by decide)
  refine Ev.bind examples10_ev (Ev.pos (by trivial) (lm_l0 x L hL hLa hx _ (M % 20) (by rw [e1, wrap_in] <;> omega) (by omega) _ 0 ⟨#[]⟩ rfl (Nat.zero_le _) (by decide) (by unfold Asc; decide)))
end Go.Proofs.Ytielpefbgdilaaa.Pure
