/-
  The law of what is put in quotes and what is read, held against the document's answer, for the seat Ytifcnblgpnfehaa.
-/
import Derived.Test.YtifcnblgpnfehaaX9
import Derived.Test.YtifcnblgpnfehaaRwQuotePuts
import Derived.Test.YtifcnblgpnfehaaP
import Derived.Test.YtifcnblgpnfehaaR
import Derived.Test.YtifcnblgpnfehaaJ
set_option linter.unusedVariables false
set_option linter.unusedSimpArgs false
namespace Go.Proofs.Ytifcnblgpnfehaa.Pure
open Go.RowKit Go.Proofs.Ytifcnblgpnfehaa.X Go.Proofs.Ytifcnblgpnfehaa.B Go.Proofs.YtifcnblgpnfehaaW.PrintWords Go.Proofs.YtifcnblgpnfehaaW.PrintLast

theorem refPut_loop (s : ByteArray) (hs : s.size ≤ 1048576) : ∀ (d i : Nat) (acc : ByteArray), s.size - i = d → i ≤ s.size → acc.size ≤ 1 + 4 * i →
    Ev (fun k => archivistref01_Put.l0 k s acc (i : Int)) (acc ++ ⟨(((by_ s).drop i).flatMap oneP ++ [34]).toArray⟩) := by
  have hb := by_length s
  intro d
  induction d with
  | zero =>
    intro i acc hd hi ha
    refine Ev.step (fun _ => rfl) ?_
    simp only [archivistref01_Put.l0]
    rw [List.drop_of_length_le (by omega)]
    exact Ev.neg (by omega) (Ev.pos (by omega) (Ev.now _))
  | succ d ih =>
    intro i acc hd hi ha
    have hlt : i < (by_ s).length := by omega
    have hc := bt_by s i hlt
    obtain ⟨b, hbb⟩ : ∃ b, (by_ s)[i] = b := ⟨_, rfl⟩
    rw [hbb] at hc
    have hdr := List.drop_eq_getElem_cons hlt
    rw [hbb] at hdr
    obtain ⟨w, hw⟩ : ∃ w : ByteArray, w = ⟨(oneP b).toArray⟩ := ⟨_, rfl⟩
    have hbw : by_ w = oneP b := by rw [hw, by_mk]
    have hwl := oneP_len b
    rw [← hbw, by_length] at hwl
    have h1 := one_ev b
    rw [← hw] at h1
    have ih' := ih (i + 1) (acc ++ w) (by omega) (by omega) (by rw [ByteArray.size_append]; omega)
    have e : acc ++ (⟨(((by_ s).drop i).flatMap oneP ++ [34]).toArray⟩ : ByteArray) = (acc ++ w) ++ ⟨(((by_ s).drop (i + 1)).flatMap oneP ++ [34]).toArray⟩ := by
      apply by_ext
      rw [by_append acc, by_append (acc ++ w), by_append acc w, by_mk (((by_ s).drop i).flatMap oneP ++ [34]), by_mk (((by_ s).drop (i + 1)).flatMap oneP ++ [34]), hbw, hdr, List.flatMap_cons, List.append_assoc, List.append_assoc]
    rw [e]
    refine Ev.step (fun _ => rfl) ?_
    simp only [archivistref01_Put.l0]
    rw [hc, show wrap64 ((i : Int) + 1) = ((i + 1 : Nat) : Int) by rw [wrap_in] <;> omega]
    exact Ev.pos (by omega) (Ev.pos (by omega) (Ev.bind h1 (Ev.pos (by omega) ih')))
theorem refPut_ev (s : ByteArray) (hs : s.size ≤ 1048576) : Ev (fun k => archivistref01_Put.f k s) ⟨(putP (by_ s)).toArray⟩ := by
  have h := refPut_loop s hs s.size 0 ⟨#[34]⟩ rfl (Nat.zero_le _) (by decide)
  rw [List.drop_zero] at h
  have e : (⟨#[34]⟩ : ByteArray) ++ ⟨((by_ s).flatMap oneP ++ [34]).toArray⟩ = ⟨(putP (by_ s)).toArray⟩ := by
    apply by_ext
    rw [by_append, by_mk, by_mk]
    rfl
  rw [e] at h
  exact h
theorem bend_f (s : ByteArray) (a b : Int) (ha : -9223372036854775808 ≤ a ∧ a ≤ 9223372036854775807) (hb : 0 ≤ b ∧ b ≤ 255) (hs : s.size ≤ 9223372036854775807) : ∃ r, archivistlaw01_bend.f s a b = some r ∧ r.size = s.size := by
  unfold archivistlaw01_bend.f
  by_cases h0 : s.size = 0
  · exact ⟨s, if_pos h0, rfl⟩
  · refine ⟨_, by rw [if_neg h0, if_pos ⟨ha.1, ha.2, hb.1, hb.2, hs⟩], ?_⟩
    rw [size_nums, List.length_set, bytesOf_length]
theorem puts_end (s t : ByteArray) (hs : s.size ≤ 1048576) (ht : t.size ≤ 6291456) : Ev (fun k => (quote_Get.f k t).bind fun bt203 => ((archivistref01_Get.f k t).bind fun bt206 => ((quote_Put.f k s).bind fun t209 => (if t209.toList = (⟨(putP (by_ s)).toArray⟩ : ByteArray).toList then (if bt203.1.toList = bt206.1.toList then (if bt203.2.1 = bt206.2.1 then (some (bt203.2.2 == bt206.2.2)) else (none)) else (none)) else (none))))) true :=
  Ev.bind (get_ev t (by omega)) (Ev.bind (refGet_ev t (SmallN.of (by omega))) (Ev.bind (put_ev s (SmallN.of (by omega))) (Ev.pos rfl (Ev.pos rfl (Ev.pos rfl (Ev.ret (beq_self_eq_true _)))))))
theorem i64_wf {n : Int} (h : (Lit.int .i64 n).wf = true) : -9223372036854775808 ≤ n ∧ n ≤ 9223372036854775807 := by
  have h0 : IntKind.i64.min = -9223372036854775808 := by decide
  have h1 : IntKind.i64.max = 9223372036854775807 := by decide
  simp [Lit.wf] at h
  omega
theorem u8_wf' {n : Int} (h : (Lit.int .u8 n).wf = true) : 0 ≤ n ∧ n ≤ 255 := by
  have h0 : IntKind.u8.min = 0 := by decide
  have h1 : IntKind.u8.max = 255 := by decide
  simp [Lit.wf] at h
  omega
theorem QuotePuts : archivistlaw01_QuotePuts.PureU := by
  intro s t own a b hown ha hb hz
  have hi := i64_wf ha
  have hu := u8_wf' hb
  refine Ev.rounds ?_
  obtain ⟨p, hp⟩ : ∃ p : ByteArray, p = ⟨(putP (by_ s)).toArray⟩ := ⟨_, rfl⟩
  have hps : p.size ≤ 4 * s.size + 2 := by
    have h1 := putP_len (by_ s)
    have h2 := flat_len (by_ s)
    rw [by_length] at h2
    rw [hp, ← by_length, by_mk, h1]
    omega
  have hput := refPut_ev s (by omega)
  rw [← hp] at hput
  have hend := fun t ht => puts_end s t (by omega) ht
  rw [← hp] at hend
  have hpt : (p ++ t).size = p.size + t.size := ByteArray.size_append
  unfold archivistlaw01_QuotePuts.f
  refine Ev.bind quoteExamples_ev (Ev.pos (by trivial) (Ev.bind hput ?_))
  by_cases c1 : Int.tmod own 4 = 1
  · exact Ev.pos c1 (Ev.pos (by omega) (hend (p ++ t) (by omega)))
  refine Ev.neg c1 ?_
  by_cases c2 : Int.tmod own 4 = 2
  · obtain ⟨r, hr, hrs⟩ := bend_f p a b hi hu (by omega)
    rw [hr]
    exact Ev.pos c2 (Ev.one (hend r (by omega)))
  refine Ev.neg c2 ?_
  by_cases c3 : Int.tmod own 4 = 3
  · obtain ⟨r, hr, hrs⟩ := bend_f (p ++ t) a b hi hu (by omega)
    rw [hr]
    exact Ev.pos c3 (Ev.pos (by omega) (Ev.one (hend r (by omega))))
  exact Ev.neg c3 (hend t (by omega))
end Go.Proofs.Ytifcnblgpnfehaa.Pure
