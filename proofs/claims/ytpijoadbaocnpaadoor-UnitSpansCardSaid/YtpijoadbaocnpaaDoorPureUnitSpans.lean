/-
  The law of spans: each unit once, from the greatest on, for the seat YtpijoadbaocnpaaDoor.
-/
import Derived.Test.YtpijoadbaocnpaaDoorX12
import Derived.Test.YtpijoadbaocnpaaDoorX13
import Derived.Test.YtpijoadbaocnpaaDoorRwUnitSpans
import Derived.Test.YtpijoadbaocnpaaDoorS
set_option linter.unusedVariables false
set_option linter.unusedSimpArgs false
namespace Go.Proofs.YtpijoadbaocnpaaDoor.Pure
open Go.RowKit Go.Proofs.YtpijoadbaocnpaaDoor.X Go.Proofs.YtpijoadbaocnpaaDoor.B Go.Proofs.YtpijoadbaocnpaaDoorW.PrintWords Go.Proofs.YtpijoadbaocnpaaDoorW.PrintLast
open Lib (itoa decDigits)

theorem u8_wf {n : Int} (h : (Lit.int .u8 n).wf = true) : 0 ≤ n ∧ n ≤ 255 := by
  simp only [Lit.wf, IntKind.min, IntKind.max, IntKind.signed, IntKind.bits, Bool.and_eq_true, decide_eq_true_eq] at h
  simp at h
  omega
theorem u16_wf {n : Int} (h : (Lit.int .u16 n).wf = true) : 0 ≤ n ∧ n ≤ 65535 := by
  simp only [Lit.wf, IntKind.min, IntKind.max, IntKind.signed, IntKind.bits, Bool.and_eq_true, decide_eq_true_eq] at h
  simp at h
  omega
theorem digits_256 : ∀ k : Fin 256, (match archivistlaw03_digits.f (k.val : Int) with | some t => decide (t.data.toList = itoa (k.val : Int)) | none => false) = true := by decide +kernel
theorem digits_ev {n : Int} (h : 0 ≤ n ∧ n ≤ 255) : archivistlaw03_digits.f n = some ⟨(itoa n).toArray⟩ := by
  have h1 := digits_256 ⟨n.toNat, by omega⟩
  simp only [] at h1
  rw [show ((n.toNat : Nat) : Int) = n by omega] at h1
  cases hd : archivistlaw03_digits.f n with
  | none => rw [hd] at h1; cases h1
  | some t =>
    rw [hd] at h1
    have h2 := of_decide_eq_true h1
    congr 1
    exact by_ext (by rw [by_mk]; exact h2)
theorem long_digit (x : Nat) (h : x < 4294967296) : by_ (strOfNums [(48 + ((Int.tmod (x : Int) 10) % 256)) % 256]) = [UInt8.ofNat (48 + x % 10)] ∧ (Int.tdiv (x : Int) 10) % 4294967296 = ((x / 10 : Nat) : Int) := by
  rw [by_nums]
  have e : Int.tmod (x : Int) 10 = ((x % 10 : Nat) : Int) := by rw [Int.tmod_eq_emod_of_nonneg (by omega)]; omega
  have e3 : Int.tdiv (x : Int) 10 = ((x / 10 : Nat) : Int) := by rw [Int.tdiv_eq_ediv_of_nonneg (by omega)]; omega
  have e2 : ((48 : Int) + ((x % 10 : Nat) : Int) % 256) % 256 = ((48 + x % 10 : Nat) : Int) := by omega
  simp only [List.map_cons, List.map_nil]
  rw [e, e2, e3, Int.toNat_natCast]
  exact ⟨rfl, by omega⟩
theorem long_loop : ∀ (d x : Nat) (s : ByteArray), x < 10 ^ d → x < 4294967296 → by_ s ≠ [] → s.size + d ≤ 1000 →
    Ev (fun k => archivistlaw03_long.l0 k (x : Int) s) ⟨((if x = 0 then [] else decDigits x) ++ by_ s).toArray⟩ := by
  intro d
  induction d with
  | zero =>
    intro x s hx hx2 hne hs
    have hx0 : x = 0 := by simpa using hx
    refine Ev.step (fun _ => rfl) ?_
    simp only [archivistlaw03_long.l0]
    refine Ev.neg (by rw [toList_by]; exact hne) (Ev.neg (by omega) (Ev.ret ?_))
    rw [if_pos hx0]
    exact by_ext (by_mk _).symm
  | succ d ih =>
    intro x s hx hx2 hne hs
    refine Ev.step (fun _ => rfl) ?_
    simp only [archivistlaw03_long.l0]
    refine Ev.neg (by rw [toList_by]; exact hne) ?_
    by_cases h0 : x = 0
    · refine Ev.neg (by omega) (Ev.ret ?_)
      rw [if_pos h0]
      exact by_ext (by_mk _).symm
    · obtain ⟨d1, d2⟩ := long_digit x hx2
      rw [d2]
      refine Ev.pos (by omega) (Ev.one ?_)
      generalize strOfNums [(48 + ((Int.tmod (x : Int) 10) % 256)) % 256] = t at *
      have ht : t.size = 1 := by rw [← by_length, d1]; rfl
      refine Ev.pos (by omega) ?_
      have h := ih (x / 10) (t ++ s) (by rw [Nat.pow_succ] at hx; omega) (by omega) (by rw [by_append, d1]; simp) (by rw [ByteArray.size_append]; omega)
      rw [by_append, d1, ← List.append_assoc] at h
      have e : (if x / 10 = 0 then [] else decDigits (x / 10)) ++ [UInt8.ofNat (48 + x % 10)] = decDigits x := by
        by_cases h1 : x / 10 = 0
        · rw [if_pos h1, dec_small (by omega), List.nil_append]
          congr 3
          omega
        · rw [if_neg h1, ← dec_great (by omega)]
      rw [e] at h
      rw [if_neg h0]
      exact h
theorem long_ev {n : Int} (h : 0 ≤ n ∧ n < 4294967296) : Ev (fun k => archivistlaw03_long.f k n) ⟨(itoa n).toArray⟩ := by
  obtain ⟨x, rfl⟩ := Int.eq_ofNat_of_zero_le h.1
  unfold archivistlaw03_long.f
  refine Ev.step (fun _ => rfl) ?_
  simp only [archivistlaw03_long.l0]
  obtain ⟨d1, d2⟩ := long_digit x (by omega)
  rw [d2]
  refine Ev.pos (by rw [toList_by]; rfl) (Ev.one ?_)
  generalize strOfNums [(48 + ((Int.tmod (x : Int) 10) % 256)) % 256] = t at *
  have ht : t.size = 1 := by rw [← by_length, d1]; rfl
  have e0 : t ++ (⟨#[]⟩ : ByteArray) = t := by_ext (by rw [by_append]; exact List.append_nil _)
  rw [e0]
  refine Ev.pos (by rw [ht]; decide) ?_
  have h2 := long_loop 20 (x / 10) t (by
    have e : (10 : Nat) ^ 20 = 100000000000000000000 := by decide
    rw [e]
    omega) (by omega) (by rw [d1]; simp) (by omega)
  rw [d1] at h2
  have e : (if x / 10 = 0 then [] else decDigits (x / 10)) ++ [UInt8.ofNat (48 + x % 10)] = decDigits x := by
    by_cases h1 : x / 10 = 0
    · rw [if_pos h1, dec_small (by omega), List.nil_append]
      congr 3
      omega
    · rw [if_neg h1, ← dec_great (by omega)]
  rw [e] at h2
  have e4 : itoa (x : Int) = decDigits x := by unfold itoa; rw [if_neg (by omega)]; rfl
  rw [e4]
  exact h2
/-- one unit's part, where there is any of it -/
def some_ (q : Int) (nm : List UInt8) : List UInt8 := if 0 < q then itoa q ++ nm else []
theorem spans_text (h m s ms : Int) (hh : 0 ≤ h ∧ h ≤ 65535) (hm : 0 ≤ m ∧ m ≤ 59) (hs : 0 ≤ s ∧ s ≤ 59) (hms : 0 ≤ ms ∧ ms ≤ 999) :
    spanT ((((h * 60 + m) * 60 + s) * 1000 + ms) * 1000000) dL = some_ h [104] ++ (some_ m [109] ++ (some_ s [115] ++ some_ ms [109, 115])) := by
  have hd : dL = [([104], 3600000000000), ([109], 60000000000), ([115], 1000000000), ([109, 115], 1000000), ([117, 115], 1000), ([110, 115], 1)] := rfl
  rw [hd]
  have z : ∀ n : Int, n = 0 → spanT n [([117, 115], 1000), ([110, 115], 1)] = [] := fun n hn => by
    subst hn
    simp only [spanT]
    rw [if_neg (by decide), if_neg (by decide)]
  have s4 : spanT (ms * 1000000) [([109, 115], 1000000), ([117, 115], 1000), ([110, 115], 1)] = some_ ms [109, 115] := by
    unfold some_
    rw [show spanT (ms * 1000000) [([109, 115], 1000000), ([117, 115], 1000), ([110, 115], 1)] = if ms * 1000000 ≥ 1000000 then itoa (ms * 1000000 / 1000000) ++ ([109, 115] ++ spanT (ms * 1000000 % 1000000) [([117, 115], 1000), ([110, 115], 1)]) else spanT (ms * 1000000) [([117, 115], 1000), ([110, 115], 1)] from rfl]
    by_cases h1 : 0 < ms
    · rw [if_pos h1, if_pos (by omega), z _ (by omega), show ms * 1000000 / 1000000 = ms by omega, List.append_nil]
    · rw [if_neg h1, if_neg (by omega), z _ (by omega)]
  have s3 : spanT ((s * 1000 + ms) * 1000000) [([115], 1000000000), ([109, 115], 1000000), ([117, 115], 1000), ([110, 115], 1)] = some_ s [115] ++ some_ ms [109, 115] := by
    rw [show spanT ((s * 1000 + ms) * 1000000) [([115], 1000000000), ([109, 115], 1000000), ([117, 115], 1000), ([110, 115], 1)] = if (s * 1000 + ms) * 1000000 ≥ 1000000000 then itoa ((s * 1000 + ms) * 1000000 / 1000000000) ++ ([115] ++ spanT ((s * 1000 + ms) * 1000000 % 1000000000) [([109, 115], 1000000), ([117, 115], 1000), ([110, 115], 1)]) else spanT ((s * 1000 + ms) * 1000000) [([109, 115], 1000000), ([117, 115], 1000), ([110, 115], 1)] from rfl]
    by_cases h1 : 0 < s
    · rw [if_pos (by omega), show (s * 1000 + ms) * 1000000 / 1000000000 = s by omega, show (s * 1000 + ms) * 1000000 % 1000000000 = ms * 1000000 by omega, s4]
      conv => rhs; lhs; unfold some_
      rw [if_pos h1, List.append_assoc]
    · rw [if_neg (by omega), show (s * 1000 + ms) * 1000000 = ms * 1000000 by omega, s4]
      conv => rhs; lhs; unfold some_
      rw [if_neg h1, List.nil_append]
  have s2 : spanT (((m * 60 + s) * 1000 + ms) * 1000000) [([109], 60000000000), ([115], 1000000000), ([109, 115], 1000000), ([117, 115], 1000), ([110, 115], 1)] = some_ m [109] ++ (some_ s [115] ++ some_ ms [109, 115]) := by
    rw [show spanT (((m * 60 + s) * 1000 + ms) * 1000000) [([109], 60000000000), ([115], 1000000000), ([109, 115], 1000000), ([117, 115], 1000), ([110, 115], 1)] = if ((m * 60 + s) * 1000 + ms) * 1000000 ≥ 60000000000 then itoa (((m * 60 + s) * 1000 + ms) * 1000000 / 60000000000) ++ ([109] ++ spanT (((m * 60 + s) * 1000 + ms) * 1000000 % 60000000000) [([115], 1000000000), ([109, 115], 1000000), ([117, 115], 1000), ([110, 115], 1)]) else spanT (((m * 60 + s) * 1000 + ms) * 1000000) [([115], 1000000000), ([109, 115], 1000000), ([117, 115], 1000), ([110, 115], 1)] from rfl]
    by_cases h1 : 0 < m
    · rw [if_pos (by omega), show ((m * 60 + s) * 1000 + ms) * 1000000 / 60000000000 = m by omega, show ((m * 60 + s) * 1000 + ms) * 1000000 % 60000000000 = (s * 1000 + ms) * 1000000 by omega, s3]
      conv => rhs; lhs; unfold some_
      rw [if_pos h1, List.append_assoc]
    · rw [if_neg (by omega), show ((m * 60 + s) * 1000 + ms) * 1000000 = (s * 1000 + ms) * 1000000 by omega, s3]
      conv => rhs; lhs; unfold some_
      rw [if_neg h1, List.nil_append]
  rw [show spanT ((((h * 60 + m) * 60 + s) * 1000 + ms) * 1000000) [([104], 3600000000000), ([109], 60000000000), ([115], 1000000000), ([109, 115], 1000000), ([117, 115], 1000), ([110, 115], 1)] = if (((h * 60 + m) * 60 + s) * 1000 + ms) * 1000000 ≥ 3600000000000 then itoa ((((h * 60 + m) * 60 + s) * 1000 + ms) * 1000000 / 3600000000000) ++ ([104] ++ spanT ((((h * 60 + m) * 60 + s) * 1000 + ms) * 1000000 % 3600000000000) [([109], 60000000000), ([115], 1000000000), ([109, 115], 1000000), ([117, 115], 1000), ([110, 115], 1)]) else spanT ((((h * 60 + m) * 60 + s) * 1000 + ms) * 1000000) [([109], 60000000000), ([115], 1000000000), ([109, 115], 1000000), ([117, 115], 1000), ([110, 115], 1)] from rfl]
  by_cases h1 : 0 < h
  · rw [if_pos (by omega), show (((h * 60 + m) * 60 + s) * 1000 + ms) * 1000000 / 3600000000000 = h by omega, show (((h * 60 + m) * 60 + s) * 1000 + ms) * 1000000 % 3600000000000 = ((m * 60 + s) * 1000 + ms) * 1000000 by omega, s2]
    conv => rhs; lhs; unfold some_
    rw [if_pos h1, List.append_assoc]
  · rw [if_neg (by omega), show (((h * 60 + m) * 60 + s) * 1000 + ms) * 1000000 = ((m * 60 + s) * 1000 + ms) * 1000000 by omega, s2]
    conv => rhs; lhs; unfold some_
    rw [if_neg h1, List.nil_append]
theorem some_ne {q : Int} {nm : List UInt8} : some_ q nm = [] ↔ ¬ 0 < q := by
  unfold some_
  split
  · rename_i h
    constructor
    · intro e
      rw [List.append_eq_nil_iff] at e
      exact absurd e.1 (itoa_ne _)
    · intro e
      exact absurd h e
  · rename_i h
    exact ⟨fun _ => h, fun _ => rfl⟩
theorem some_len {q : Int} (hq : in64 q) {nm : List UInt8} : (some_ q nm).length ≤ 20 + nm.length := by
  unfold some_
  split
  · rw [List.length_append]
    have := itoa_len hq
    omega
  · simp
theorem UnitSpans : archivistlaw03_UnitSpans.PureS := by
  intro h m s ms gh gm gs gms
  have hh := u16_wf gh
  have hm := u8_wf gm
  have hs := u8_wf gs
  have hms := u16_wf gms
  clear gh gm gs gms
  refine Ev.rounds ?_
  unfold archivistlaw03_UnitSpans.f
  refine Ev.bind unitExamples_ev (Ev.pos (by first | trivial | rfl) ?_)
  have tm := Int.tmod_eq_emod_of_nonneg (b := 60) hm.1
  have ts := Int.tmod_eq_emod_of_nonneg (b := 60) hs.1
  have tms := Int.tmod_eq_emod_of_nonneg (b := 1000) hms.1
  obtain ⟨M, hM⟩ : ∃ q, Int.tmod m 60 = q := ⟨_, rfl⟩
  obtain ⟨S, hS⟩ : ∃ q, Int.tmod s 60 = q := ⟨_, rfl⟩
  obtain ⟨T, hT⟩ : ∃ q, Int.tmod ms 1000 = q := ⟨_, rfl⟩
  have bM : 0 ≤ M ∧ M ≤ 59 := by omega
  have bS : 0 ≤ S ∧ S ≤ 59 := by omega
  have bT : 0 ≤ T ∧ T ≤ 999 := by omega
  rw [hM, hS, hT]
  have e1 : wrap64 h = h := wrap_in (by omega) (by omega)
  have e2 : wrap64 M = M := wrap_in (by omega) (by omega)
  have e3 : wrap64 S = S := wrap_in (by omega) (by omega)
  have e4 : wrap64 T = T := wrap_in (by omega) (by omega)
  have e5 : wrap64 (h * 60) = h * 60 := wrap_in (by omega) (by omega)
  have e6 : wrap64 (h * 60 + M) = h * 60 + M := wrap_in (by omega) (by omega)
  have e7 : wrap64 ((h * 60 + M) * 60) = (h * 60 + M) * 60 := wrap_in (by omega) (by omega)
  have e8 : wrap64 ((h * 60 + M) * 60 + S) = (h * 60 + M) * 60 + S := wrap_in (by omega) (by omega)
  have e9 : wrap64 (((h * 60 + M) * 60 + S) * 1000) = ((h * 60 + M) * 60 + S) * 1000 := wrap_in (by omega) (by omega)
  have e10 : wrap64 (((h * 60 + M) * 60 + S) * 1000 + T) = ((h * 60 + M) * 60 + S) * 1000 + T := wrap_in (by omega) (by omega)
  have e11 : wrap64 ((((h * 60 + M) * 60 + S) * 1000 + T) * 1000000) = (((h * 60 + M) * 60 + S) * 1000 + T) * 1000000 := wrap_in (by omega) (by omega)
  rw [e1, e2, e3, e4, e5, e6, e7, e8, e9, e10, e11]
  have hN : in64 ((((h * 60 + M) * 60 + S) * 1000 + T) * 1000000) := ⟨by omega, by omega⟩
  refine Ev.bind (span_ev hN) ?_
  have ht := spans_text h M S T hh bM bS bT
  have hn0 : ¬ ((((h * 60 + M) * 60 + S) * 1000 + T) * 1000000) < 0 := by omega
  have hz : (((h * 60 + M) * 60 + S) * 1000 + T) * 1000000 = 0 ↔ ¬ 0 < h ∧ ¬ 0 < M ∧ ¬ 0 < S ∧ ¬ 0 < T := by omega
  obtain ⟨R, hR⟩ : ∃ q, spanR ((((h * 60 + M) * 60 + S) * 1000 + T) * 1000000) = q := ⟨_, rfl⟩
  have hR2 : R.2 = true := by
    rw [← hR]
    unfold spanR
    rw [if_neg hn0]
    split <;> rfl
  have hR1 : by_ R.1 = if some_ h [104] ++ (some_ M [109] ++ (some_ S [115] ++ some_ T [109, 115])) = [] then [48, 115] else some_ h [104] ++ (some_ M [109] ++ (some_ S [115] ++ some_ T [109, 115])) := by
    rw [← hR]
    unfold spanR
    rw [if_neg hn0]
    have hiff : some_ h [104] ++ (some_ M [109] ++ (some_ S [115] ++ some_ T [109, 115])) = [] ↔ ¬ 0 < h ∧ ¬ 0 < M ∧ ¬ 0 < S ∧ ¬ 0 < T := by
      rw [List.append_eq_nil_iff, List.append_eq_nil_iff, List.append_eq_nil_iff, some_ne, some_ne, some_ne, some_ne]
    by_cases h0 : (((h * 60 + M) * 60 + S) * 1000 + T) * 1000000 = 0
    · rw [if_pos h0, if_pos (hiff.2 (hz.1 h0))]
      rfl
    · rw [if_neg h0, if_neg (fun e => h0 (hz.2 (hiff.1 e))), by_mk, ht]
  rw [hR]
  clear ht hz hn0 hN e1 e2 e3 e4 e5 e6 e7 e8 e9 e10 e11
  have ih : in64 h := ⟨by omega, by omega⟩
  have iM : in64 M := ⟨by omega, by omega⟩
  have iS : in64 S := ⟨by omega, by omega⟩
  have iT : in64 T := ⟨by omega, by omega⟩
  have lh := some_len ih (nm := [104])
  have lM := some_len iM (nm := [109])
  have lS := some_len iS (nm := [115])
  simp only [List.length_cons, List.length_nil] at lh lM lS
  have j2 : ∀ w : ByteArray, by_ w = some_ h [104] ++ (some_ M [109] ++ some_ S [115]) → w.size ≤ 100 → Ev (fun k => archivistlaw03_UnitSpans.j2 k ms true R.1 R.2 w) true := by
    intro w hw hwz
    have hR1' : by_ R.1 = if by_ w ++ some_ T [109, 115] = [] then [48, 115] else by_ w ++ some_ T [109, 115] := by
      rw [hR1, hw]
      simp only [List.append_assoc]
    refine Ev.step (fun _ => rfl) ?_
    simp only [archivistlaw03_UnitSpans.j2]
    rw [hT, hR2]
    by_cases hT0 : T > 0
    · refine Ev.pos hT0 ?_
      rw [show T % 4294967296 = T by omega]
      have hTz := text_size _ iT
      refine Ev.bind (long_ev (by omega)) (Ev.pos (by omega) (Ev.pos (by rw [ByteArray.size_append]; omega) ?_))
      have hst : some_ T [109, 115] = itoa T ++ [109, 115] := by unfold some_; rw [if_pos hT0]
      have hbw : by_ ((w ++ ⟨(itoa T).toArray⟩) ++ (⟨#[109, 115]⟩ : ByteArray)) = by_ w ++ some_ T [109, 115] := by
        rw [by_append, by_append, by_mk, hst, List.append_assoc]
        rfl
      have hne : by_ w ++ some_ T [109, 115] ≠ [] := by rw [hst]; simp
      rw [if_neg hne] at hR1'
      refine Ev.neg (by rw [toList_by, hbw]; exact hne) (Ev.pos (by first | trivial | rfl) (Ev.pos (by first | trivial | rfl) (Ev.ret ?_)))
      rw [toList_by, toList_by, hbw, hR1']
      exact beq_self_eq_true _
    · refine Ev.neg hT0 ?_
      have hst : some_ T [109, 115] = [] := some_ne.2 hT0
      rw [hst, List.append_nil] at hR1'
      by_cases hw0 : by_ w = []
      · rw [if_pos hw0] at hR1'
        refine Ev.pos (by rw [toList_by]; exact hw0) (Ev.pos (by first | trivial | rfl) (Ev.pos (by first | trivial | rfl) (Ev.ret ?_)))
        rw [toList_by, hR1']
        rfl
      · rw [if_neg hw0] at hR1'
        refine Ev.neg (by rw [toList_by]; exact hw0) (Ev.pos (by first | trivial | rfl) (Ev.pos (by first | trivial | rfl) (Ev.ret ?_)))
        rw [toList_by, toList_by, hR1']
        exact beq_self_eq_true _
  have j1 : ∀ w : ByteArray, by_ w = some_ h [104] ++ some_ M [109] → w.size ≤ 60 → Ev (fun k => archivistlaw03_UnitSpans.j1 k s ms true R.1 R.2 w) true := by
    intro w hw hwz
    refine Ev.step (fun _ => rfl) ?_
    simp only [archivistlaw03_UnitSpans.j1]
    rw [hS]
    by_cases h0 : S > 0
    · refine Ev.pos h0 ?_
      rw [digits_ev (by omega)]
      have hz := text_size _ iS
      refine Ev.one (Ev.pos (by omega) (Ev.pos (by rw [ByteArray.size_append]; omega) (j2 _ ?_ ?_)))
      · rw [by_append, by_append, hw, by_mk]
        have : some_ S [115] = itoa S ++ [115] := by unfold some_; rw [if_pos h0]
        rw [this]
        simp only [List.append_assoc]
        rfl
      · rw [ByteArray.size_append, ByteArray.size_append]
        show _ + 1 ≤ _
        omega
    · refine Ev.neg h0 (j2 _ ?_ (by omega))
      rw [hw, some_ne.2 h0, List.append_nil]
  have j0 : ∀ w : ByteArray, by_ w = some_ h [104] → w.size ≤ 30 → Ev (fun k => archivistlaw03_UnitSpans.j0 k m s ms true R.1 R.2 w) true := by
    intro w hw hwz
    refine Ev.step (fun _ => rfl) ?_
    simp only [archivistlaw03_UnitSpans.j0]
    rw [hM]
    by_cases h0 : M > 0
    · refine Ev.pos h0 ?_
      rw [digits_ev (by omega)]
      have hz := text_size _ iM
      refine Ev.one (Ev.pos (by omega) (Ev.pos (by rw [ByteArray.size_append]; omega) (j1 _ ?_ ?_)))
      · rw [by_append, by_append, hw, by_mk]
        have : some_ M [109] = itoa M ++ [109] := by unfold some_; rw [if_pos h0]
        rw [this]
        simp only [List.append_assoc]
        rfl
      · rw [ByteArray.size_append, ByteArray.size_append]
        show _ + 1 ≤ _
        omega
    · refine Ev.neg h0 (j1 _ ?_ (by omega))
      rw [hw, some_ne.2 h0, List.append_nil]
  by_cases h0 : h > 0
  · refine Ev.pos h0 ?_
    rw [show h % 4294967296 = h by omega]
    have hz := text_size _ ih
    have e0 : (⟨#[]⟩ : ByteArray) ++ ⟨(itoa h).toArray⟩ = ⟨(itoa h).toArray⟩ := by_ext (by rw [by_append]; rfl)
    refine Ev.bind (long_ev (by omega)) ?_
    rw [e0]
    refine Ev.pos (by omega) (Ev.pos (by omega) (j0 _ ?_ ?_))
    · rw [by_append, by_mk]
      have : some_ h [104] = itoa h ++ [104] := by unfold some_; rw [if_pos h0]
      rw [this]
      rfl
    · rw [ByteArray.size_append]
      show _ + 1 ≤ _
      omega
  · refine Ev.neg h0 (j0 _ ?_ (by decide))
    rw [some_ne.2 h0]
    rfl
end Go.Proofs.YtpijoadbaocnpaaDoor.Pure
