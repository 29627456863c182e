/-
  The law of what is put in quotes and read back, for the seat Ytifcnblgpnfehaa.
-/
import Derived.Test.YtifcnblgpnfehaaX11
import Derived.Test.YtifcnblgpnfehaaRwQuoteBack
import Derived.Test.YtifcnblgpnfehaaP
import Derived.Test.YtifcnblgpnfehaaJ
set_option linter.unusedVariables false
set_option linter.unusedSimpArgs false
namespace Go.Proofs.Ytifcnblgpnfehaa.Pure
open Go.RowKit Go.Proofs.Ytifcnblgpnfehaa.X Go.Proofs.Ytifcnblgpnfehaa.B Go.Proofs.YtifcnblgpnfehaaW.PrintWords Go.Proofs.YtifcnblgpnfehaaW.PrintLast

theorem put_cut (t : List UInt8) (m : Nat) (h : m < (putP t).length) : getP ((putP t).take m) = none := by
  cases h1 : getP ((putP t).take m) with
  | none => rfl
  | some q =>
    exfalso
    obtain ⟨x, n⟩ := q
    have hn : n ≤ m := by
      have h2 := getP_len' h1
      rw [List.length_take] at h2
      omega
    have h2 := getR_more ((putP t).drop m) h1
    rw [List.take_append_drop] at h2
    have h3 := getP_put t []
    rw [List.append_nil, h2] at h3
    have h4 := congrArg Prod.snd (Option.some.inj h3)
    simp only at h4
    omega
theorem put_inj {s t : List UInt8} (h : putP s = putP t) : s = t := by
  have h1 := getP_put s []
  have h2 := getP_put t []
  rw [h, h2] at h1
  exact (congrArg Prod.fst (Option.some.inj h1)).symm
theorem back_j0 (s t behind : ByteArray) (cut : Int) (hs : s.size ≤ 1048576) (ht : t.size ≤ 1048576) (hb : behind.size ≤ 1048576) (hc0 : 0 ≤ cut) (hc1 : cut ≤ 65535) :
    Ev (fun k => archivistlaw01_QuoteBack.j0 k s t behind cut true) true := by
  obtain ⟨p, hp⟩ : ∃ p : ByteArray, p = ⟨(putP (by_ s)).toArray⟩ := ⟨_, rfl⟩
  have hbp : by_ p = putP (by_ s) := by rw [hp, by_mk]
  have hpl := by_length p
  have hlen := putP_len (by_ s)
  have hfl := flat_len (by_ s)
  rw [by_length] at hfl
  rw [← hbp, hpl] at hlen
  have hps : p.size ≤ 4194306 := by omega
  have hp2 : 2 ≤ p.size := by omega
  have h1 := put_ev s (SmallN.of (by omega))
  rw [← hp] at h1
  have h2 := get_ev (p ++ behind) (by rw [ByteArray.size_append]; omega)
  rw [by_append, hbp, getP_put, ← hbp, hpl] at h2
  obtain ⟨m, hm⟩ : ∃ m : Nat, cut = m := ⟨cut.toNat, by omega⟩
  subst hm
  have e1 : wrap64 (m : Int) = (m : Int) := by rw [wrap_in] <;> omega
  have e2 : Int.tmod (m : Int) (p.size : Int) = ((m % p.size : Nat) : Int) := rfl
  have hlt : m % p.size < p.size := Nat.mod_lt _ (by omega)
  obtain ⟨q, hq⟩ : ∃ q, m % p.size = q := ⟨_, rfl⟩
  rw [hq] at e2 hlt
  have hcut : Ev (fun k => quote_Get.f k (p.extract 0 q)) (⟨#[]⟩, 0, false) := by
    have h3 := get_ev (p.extract 0 q) (by rw [ByteArray.size_extract]; omega)
    rw [by_extract, List.drop_zero, hbp, put_cut _ _ (by rw [← hbp, hpl]; exact hlt)] at h3
    exact h3
  have h4 := put_ev t (SmallN.of (by omega))
  have hfin : (p.toList == (⟨(putP (by_ t)).toArray⟩ : ByteArray).toList) = (s.toList == t.toList) := by
    rw [toList_by p, toList_by s, toList_by t, toList_by ⟨(putP (by_ t)).toArray⟩, by_mk (putP (by_ t)), hbp]
    rw [Bool.eq_iff_iff, beq_iff_eq, beq_iff_eq]
    exact ⟨put_inj, fun h => by rw [h]⟩
  refine Ev.step (fun _ => rfl) ?_
  simp only [archivistlaw01_QuoteBack.j0]
  rw [e1]
  clear e1
  refine Ev.bind h1 (Ev.neg (by omega) (Ev.pos (by omega) (Ev.bind h2 (Ev.neg (by omega) ?_))))
  rw [e2, Int.toNat_natCast]
  refine Ev.pos (Int.natCast_nonneg _) (Ev.pos (Int.ofNat_le.2 (Nat.le_of_lt hlt)) (Ev.bind hcut (Ev.pos (by trivial) (Ev.pos ?_ (Ev.pos rfl (Ev.pos rfl (Ev.neg (by decide) (Ev.bind h4 (Ev.ret ?_)))))))))
  · simp only [getI]
    rw [toList_by, by_mk, toList_by]
  · rw [hfin, beq_self_eq_true]
theorem u16_wf {n : Int} (h : (Lit.int .u16 n).wf = true) : 0 ≤ n ∧ n ≤ 65535 := by
  have h0 : IntKind.u16.min = 0 := by decide
  have h1 : IntKind.u16.max = 65535 := by decide
  simp [Lit.wf] at h
  omega
theorem QuoteBack : archivistlaw01_QuoteBack.PureU := by
  intro s t b c same hw hs
  obtain ⟨c0, c1⟩ := u16_wf hw
  refine Ev.rounds ?_
  unfold archivistlaw01_QuoteBack.f
  refine Ev.bind quoteExamples_ev (Ev.pos (by trivial) ?_)
  cases same with
  | true => exact Ev.pos (by trivial) (back_j0 s s b c (by omega) (by omega) (by omega) c0 c1)
  | false => exact Ev.neg (by decide) (back_j0 s t b c (by omega) (by omega) (by omega) c0 c1)
end Go.Proofs.Ytifcnblgpnfehaa.Pure
