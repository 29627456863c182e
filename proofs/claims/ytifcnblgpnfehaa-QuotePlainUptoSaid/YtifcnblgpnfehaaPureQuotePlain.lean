/-
  The law of what is put in quotes: its bytes and its length, for the seat Ytifcnblgpnfehaa.
-/
import Derived.Test.YtifcnblgpnfehaaX11
import Derived.Test.YtifcnblgpnfehaaRwQuotePlain
import Derived.Test.YtifcnblgpnfehaaP
import Derived.Test.YtifcnblgpnfehaaJ
set_option linter.unusedVariables false
set_option linter.unusedSimpArgs false
namespace Go.Proofs.Ytifcnblgpnfehaa.Pure
open Go.RowKit Go.Proofs.Ytifcnblgpnfehaa.X Go.Proofs.Ytifcnblgpnfehaa.B Go.Proofs.YtifcnblgpnfehaaW.PrintWords Go.Proofs.YtifcnblgpnfehaaW.PrintLast

theorem one_plain (b : UInt8) : ∀ c ∈ oneP b, 32 ≤ c.toNat ∧ c.toNat ≤ 126 := by
  have h : ∀ n : Fin 256, ∀ c ∈ oneP (UInt8.ofNat n.val), 32 ≤ c.toNat ∧ c.toNat ≤ 126 := by decide +kernel
  have := h ⟨b.toNat, b.toNat_lt⟩
  simpa only [UInt8.ofNat_toNat] using this
theorem put_plain (t : List UInt8) : ∀ c ∈ putP t, 32 ≤ c.toNat ∧ c.toNat ≤ 126 := by
  intro c hc
  rw [putP, List.mem_cons, List.mem_append, List.mem_singleton, List.mem_flatMap] at hc
  rcases hc with rfl | ⟨b, _, hb⟩ | rfl
  · decide
  · exact one_plain b c hb
  · decide
theorem put_last (t : List UInt8) (h : (putP t).length - 1 < (putP t).length) : (putP t)[(putP t).length - 1] = 34 := by
  have e : putP t = (34 :: t.flatMap oneP) ++ [34] := by rw [putP]; rfl
  rw [← List.getLast_eq_getElem (by rw [putP]; simp)]
  simp only [e, List.getLast_append, List.getLast_singleton]
  simp
theorem plain_loop (s : ByteArray) (hs : s.size ≤ 1048576) (p : ByteArray) (hp : by_ p = putP (by_ s)) : ∀ (d i : Nat), p.size - i = d → i ≤ p.size →
    Ev (fun k => archivistlaw01_QuotePlain.l0 k s true p (i : Int)) true := by
  have hb := by_length p
  have hlen := putP_len (by_ s)
  have hfl := flat_len (by_ s)
  rw [by_length] at hfl
  rw [← hp, hb] at hlen
  intro d
  induction d with
  | zero =>
    intro i hd hi
    have e1 : wrap64 ((s.size : Int) + 2) = ((s.size + 2 : Nat) : Int) := by rw [wrap_in] <;> omega
    have e2 : wrap64 (4 * (s.size : Int)) = ((4 * s.size : Nat) : Int) := by rw [wrap_in] <;> omega
    have e3 : wrap64 (((4 * s.size : Nat) : Int) + 2) = ((4 * s.size + 2 : Nat) : Int) := by rw [wrap_in] <;> omega
    have e4 : wrap64 ((p.size : Int) - 1) = ((p.size - 1 : Nat) : Int) := by rw [wrap_in] <;> omega
    have h0 : bt p 0 = 34 := by
      have h := bt_by p 0 (by omega)
      have e : (by_ p)[0]'(by omega) = 34 := by simp [hp, putP]
      rw [e] at h
      exact h
    have hz : bt p ((p.size - 1 : Nat) : Int) = 34 := by
      have h := bt_by p (p.size - 1) (by omega)
      have e : (by_ p)[p.size - 1]'(by omega) = 34 := by
        have h9 := put_last (by_ s) (by rw [← hp]; omega)
        simp only [← hp, hb] at h9
        exact h9
      rw [e] at h
      exact h
    refine Ev.step (fun _ => rfl) ?_
    simp only [archivistlaw01_QuotePlain.l0]
    rw [e1, e2, e3, e4, h0, hz]
    clear e1 e2 e3 e4
    exact Ev.neg (by omega) (Ev.pos (by trivial) (Ev.pos (by omega) (Ev.pos (by omega) (Ev.pos (by omega) (Ev.pos rfl (Ev.pos (by omega) (Ev.pos (by omega) (Ev.now _))))))))
  | succ d ih =>
    intro i hd hi
    have hlt : i < (by_ p).length := by omega
    have ih' := ih (i + 1) (by omega) (by omega)
    have hc := bt_by p i hlt
    have hr := put_plain (by_ s) ((by_ p)[i]) (by rw [← hp]; exact List.getElem_mem hlt)
    refine Ev.step (fun _ => rfl) ?_
    simp only [archivistlaw01_QuotePlain.l0]
    rw [w1 i (by omega), hc]
    exact Ev.pos (by omega) (Ev.pos (by omega) (Ev.neg (by omega) (Ev.neg (by omega) ih')))
theorem QuotePlain : archivistlaw01_QuotePlain.PureU := by
  intro s hs
  refine Ev.rounds ?_
  unfold archivistlaw01_QuotePlain.f
  refine Ev.bind quoteExamples_ev (Ev.pos (by trivial) (Ev.bind (put_ev s (SmallN.of (by omega))) ?_))
  exact plain_loop s (by omega) _ (by rw [by_mk]) _ 0 rfl (Nat.zero_le _)
end Go.Proofs.Ytifcnblgpnfehaa.Pure
