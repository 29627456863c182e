/-
  The law of durations and sizes above 2^63 less one: they are none, for the seat YtpijoadbaocnpaaDoor.
-/
import Derived.Test.YtpijoadbaocnpaaDoorX15
import Derived.Test.YtpijoadbaocnpaaDoorRwUnitOver
import Derived.Test.YtpijoadbaocnpaaDoorS
set_option linter.unusedVariables false
set_option linter.unusedSimpArgs false
namespace Go.Proofs.YtpijoadbaocnpaaDoor.Pure
open Go.RowKit Go.Proofs.YtpijoadbaocnpaaDoor.X Go.Proofs.YtpijoadbaocnpaaDoor.B Go.Proofs.YtpijoadbaocnpaaDoorW.PrintWords Go.Proofs.YtpijoadbaocnpaaDoorW.PrintLast
open Lib (itoa decDigits)

theorem u32_wf {n : Int} (h : (Lit.int .u32 n).wf = true) : 0 ≤ n ∧ n < 4294967296 := by
  simp only [Lit.wf, IntKind.min, IntKind.max, IntKind.signed, IntKind.bits, Bool.and_eq_true, decide_eq_true_eq] at h
  simp at h
  omega
theorem long_digit (x : Nat) (h : x < 4294967296) : by_ (strOfNums [(48 + ((Int.tmod (x : Int) 10) % 256)) % 256]) = [UInt8.ofNat (48 + x % 10)] ∧ (Int.tdiv (x : Int) 10) % 4294967296 = ((x / 10 : Nat) : Int) := by
  rw [by_nums]
  have e : Int.tmod (x : Int) 10 = ((x % 10 : Nat) : Int) := by rw [Int.tmod_eq_emod_of_nonneg (by omega)]; omega
  have e3 : Int.tdiv (x : Int) 10 = ((x / 10 : Nat) : Int) := by rw [Int.tdiv_eq_ediv_of_nonneg (by omega)]; omega
  have e2 : ((48 : Int) + ((x % 10 : Nat) : Int) % 256) % 256 = ((48 + x % 10 : Nat) : Int) := by omega
  simp only [List.map_cons, List.map_nil]
  rw [e, e2, e3, Int.toNat_natCast]
  exact ⟨rfl, by omega⟩
theorem dig_join (x : Nat) : (if x / 10 = 0 then [] else decDigits (x / 10)) ++ [UInt8.ofNat (48 + x % 10)] = decDigits x := by
  by_cases h1 : x / 10 = 0
  · rw [if_pos h1, dec_small (by omega), List.nil_append]
    congr 3
    omega
  · rw [if_neg h1, ← dec_great (by omega)]
theorem over_loop (n : Int) (R : Bool) (T : ByteArray) : ∀ (d x : Nat) (s : ByteArray), x < 10 ^ d → x < 4294967296 → by_ s ≠ [] → s.size + d ≤ 1000 → by_ T = (if x = 0 then [] else decDigits x) ++ by_ s →
    Ev (fun k => archivistlaw03_UnitOver.l0 k n true T 0) R → Ev (fun k => archivistlaw03_UnitOver.l0 k n true s (x : Int)) R := by
  intro d
  induction d with
  | zero =>
    intro x s hx hx2 hne hs hT h
    have hx0 : x = 0 := by simpa using hx
    subst hx0
    rw [if_pos rfl, List.nil_append] at hT
    rw [← by_ext hT]
    exact h
  | succ d ih =>
    intro x s hx hx2 hne hs hT h
    by_cases h0 : x = 0
    · subst h0
      rw [if_pos rfl, List.nil_append] at hT
      rw [← by_ext hT]
      exact h
    · refine Ev.step (fun _ => rfl) ?_
      simp only [archivistlaw03_UnitOver.l0]
      refine Ev.neg (by rw [toList_by]; exact hne) ?_
      obtain ⟨d1, d2⟩ := long_digit x hx2
      rw [d2]
      refine Ev.pos (by omega) (Ev.one ?_)
      generalize strOfNums [(48 + ((Int.tmod (x : Int) 10) % 256)) % 256] = t at *
      have ht : t.size = 1 := by rw [← by_length, d1]; rfl
      refine Ev.pos (by omega) ?_
      refine ih (x / 10) (t ++ s) (by rw [Nat.pow_succ] at hx; omega) (by omega) (by rw [by_append, d1]; simp) (by rw [ByteArray.size_append]; omega) ?_ h
      rw [by_append, d1, ← List.append_assoc, dig_join x, hT, if_neg h0]
theorem gb_put {q : Int} (hq : in64 q) (h0 : 0 ≤ q) : bytL (itoa q ++ [71, 66]) = mulP2 q 1073741824 := by
  have h := unitP_put bN hq h0 (nm := [71, 66]) (r := []) (by decide) (by decide) (.inl rfl)
  rw [List.append_nil] at h
  unfold bytL
  rw [h]
  rfl
theorem h_put {q : Int} (hq : in64 q) (h0 : 0 ≤ q) : durL (itoa q ++ [104]) = if in64 (q * 3600000000000) then (q * 3600000000000, true) else (0, false) := by
  have h := unitP_put dN hq h0 (nm := [104]) (r := []) (by decide) (by decide) (.inl rfl)
  rw [List.append_nil] at h
  have e : placeU dN [104] 0 = some 0 := rfl
  rw [e, Option.map_some] at h
  have ef : dF.getD 0 0 = 3600000000000 := rfl
  unfold durL
  have e1 : (itoa q ++ [104]).length = (itoa q).length + 1 := by rw [List.length_append]; rfl
  rw [e1]
  unfold durP
  rw [if_neg (by simp), h]
  simp only []
  rw [ef]
  by_cases hm : in64 (q * 3600000000000)
  · rw [if_pos ⟨hm, by decide, by rw [Int.zero_add]; exact hm⟩, if_pos hm, Int.zero_add]
    unfold durP
    rw [if_pos ⟨rfl, by decide⟩]
  · rw [if_neg (fun h => hm h.1), if_neg hm]
theorem thousand (x : Nat) (h : 0 < x) : decDigits x ++ [48, 48, 48] = decDigits (1000 * x) := by
  have s : ∀ y : Nat, 0 < y → decDigits (10 * y) = decDigits y ++ [48] := fun y hy => by
    rw [dec_great (by omega), show 10 * y / 10 = y by omega, show 10 * y % 10 = 0 by omega]
    rfl
  rw [show 1000 * x = 10 * (10 * (10 * x)) by omega, s _ (by omega), s _ (by omega), s _ h, List.append_assoc, List.append_assoc]
  rfl
theorem zero_gb : bytL ([48] ++ [48, 48, 48, 71, 66]) = (0, false) := by decide +kernel
theorem UnitOver : archivistlaw03_UnitOver.PureS := by
  intro n gn
  have hn := u32_wf gn
  refine Ev.rounds ?_
  unfold archivistlaw03_UnitOver.f
  refine Ev.bind unitExamples_ev (Ev.pos (by first | trivial | rfl) ?_)
  obtain ⟨x, rfl⟩ := Int.eq_ofNat_of_zero_le hn.1
  have hx : x < 4294967296 := by omega
  have hd : itoa (x : Int) = decDigits x := by unfold itoa; rw [if_neg (by omega)]; rfl
  have h64 : in64 (x : Int) := ⟨by omega, by omega⟩
  obtain ⟨T, hT⟩ : ∃ T : ByteArray, T = ⟨(itoa (x : Int)).toArray⟩ := ⟨_, rfl⟩
  have bT : by_ T = itoa (x : Int) := by rw [hT, by_mk]
  have zT : T.size ≤ 20 := by rw [← by_length, bT]; exact itoa_len h64
  have last : Ev (fun k => archivistlaw03_UnitOver.l0 k (x : Int) true T 0) true := by
    refine Ev.step (fun _ => rfl) ?_
    simp only [archivistlaw03_UnitOver.l0]
    refine Ev.neg (by rw [toList_by, bT]; exact itoa_ne _) (Ev.neg (by omega) (Ev.pos (by omega) ?_))
    rw [byt_ev _ (by rw [ByteArray.size_append]; show _ + 5 ≤ _; omega)]
    refine Ev.one (Ev.pos (by omega) (Ev.bind (dur_ev _ (by rw [ByteArray.size_append]; show _ + 1 ≤ _; omega)) ?_))
    rw [by_append, by_append, bT, show by_ (⟨#[48, 48, 48, 71, 66]⟩ : ByteArray) = [48, 48, 48, 71, 66] from rfl, show by_ (⟨#[104]⟩ : ByteArray) = [104] from rfl, h_put h64 (by omega)]
    by_cases h0 : x = 0
    · subst h0
      have e0 : itoa ((0 : Nat) : Int) = [48] := itoa0
      have hz : in64 (((0 : Nat) : Int) * 3600000000000) := ⟨by decide, by decide⟩
      rw [e0, zero_gb, if_pos hz]
      exact Ev.pos rfl (Ev.pos (by first | trivial | rfl) (Ev.neg (by decide) (Ev.pos rfl (Ev.ret (by decide)))))
    · have eG : itoa (x : Int) ++ [48, 48, 48, 71, 66] = itoa ((1000 * x : Nat) : Int) ++ [71, 66] := by
        have e4 : itoa ((1000 * x : Nat) : Int) = decDigits (1000 * x) := by unfold itoa; rw [if_neg (by omega)]; rfl
        rw [hd, e4, ← thousand x (by omega), List.append_assoc]
        rfl
      have w0 : wrap64 (x : Int) = (x : Int) := wrap_in (by omega) (by omega)
      have w1 : wrap64 ((x : Int) * 1000) = (x : Int) * 1000 := wrap_in (by omega) (by omega)
      rw [eG, gb_put ⟨by omega, by omega⟩ (by omega), w0, w1]
      unfold mulP2
      have ec : ((1000 * x : Nat) : Int) = (x : Int) * 1000 := by omega
      rw [ec]
      have dur : ∀ c : Bool, Ev (fun _ => if (((if in64 ((x : Int) * 3600000000000) then ((x : Int) * 3600000000000, true) else (0, false)) : Int × Bool).2 == decide ((x : Int) ≤ 2562047)) = true then (if (x : Int) ≤ 2562047 then some ((((if in64 ((x : Int) * 3600000000000) then ((x : Int) * 3600000000000, true) else (0, false)) : Int × Bool).1) == wrap64 ((x : Int) * 3600000000000)) else some true) else none) true := fun _ => by
        by_cases hm : (x : Int) ≤ 2562047
        · have hi : in64 ((x : Int) * 3600000000000) := ⟨by omega, by omega⟩
          rw [if_pos hi, decide_eq_true hm]
          exact Ev.pos rfl (Ev.pos hm (Ev.ret (by rw [wrap_in hi.1 hi.2]; exact beq_self_eq_true _)))
        · have hi : ¬ in64 ((x : Int) * 3600000000000) := fun h => by have := h.2; omega
          rw [if_neg hi, decide_eq_false hm]
          exact Ev.pos rfl (Ev.neg hm (Ev.now _))
      refine Ev.neg (by omega) (Ev.pos (by first | trivial | rfl) ?_)
      by_cases hf : (x : Int) * 1000 ≤ 8589934591
      · have hi : in64 ((x : Int) * 1000 * 1073741824) := ⟨by omega, by omega⟩
        rw [if_pos hi, decide_eq_true hf]
        exact Ev.pos rfl (Ev.pos hf (Ev.pos (by rw [wrap_in hi.1 hi.2]) (dur true)))
      · have hi : ¬ in64 ((x : Int) * 1000 * 1073741824) := fun h => by have := h.2; omega
        rw [if_neg hi, decide_eq_false hf]
        exact Ev.pos rfl (Ev.neg hf (dur true))
  refine Ev.step (fun _ => rfl) ?_
  simp only [archivistlaw03_UnitOver.l0]
  obtain ⟨d1, d2⟩ := long_digit x hx
  rw [d2]
  refine Ev.pos (by rw [toList_by]; rfl) (Ev.one ?_)
  generalize strOfNums [(48 + ((Int.tmod (x : Int) 10) % 256)) % 256] = t at *
  have ht : t.size = 1 := by rw [← by_length, d1]; rfl
  have e0 : t ++ (⟨#[]⟩ : ByteArray) = t := by_ext (by rw [by_append]; exact List.append_nil _)
  rw [e0]
  refine Ev.pos (by rw [ht]; decide) ?_
  refine over_loop (x : Int) true T 20 (x / 10) t (by
    have e : (10 : Nat) ^ 20 = 100000000000000000000 := by decide
    rw [e]
    omega) (by omega) (by rw [d1]; simp) (by omega) ?_ last
  rw [d1, dig_join x, bT, hd]
end Go.Proofs.YtpijoadbaocnpaaDoor.Pure
