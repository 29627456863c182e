/-
  The law of sizes: told in the greatest unit of which they are a whole number, for the seat YtpijoadbaocnpaaDoor.
-/
import Derived.Test.YtpijoadbaocnpaaDoorX12
import Derived.Test.YtpijoadbaocnpaaDoorX14
import Derived.Test.YtpijoadbaocnpaaDoorRwUnitSizes
import Derived.Test.YtpijoadbaocnpaaDoorS
set_option linter.unusedVariables false
set_option linter.unusedSimpArgs false
namespace Go.Proofs.YtpijoadbaocnpaaDoor.Pure
open Go.RowKit Go.Proofs.YtpijoadbaocnpaaDoor.X Go.Proofs.YtpijoadbaocnpaaDoor.B Go.Proofs.YtpijoadbaocnpaaDoorW.PrintWords Go.Proofs.YtpijoadbaocnpaaDoorW.PrintLast
open Lib (itoa decDigits)

theorem u8_wf {n : Int} (h : (Lit.int .u8 n).wf = true) : 0 ≤ n ∧ n ≤ 255 := by
  simp only [Lit.wf, IntKind.min, IntKind.max, IntKind.signed, IntKind.bits, Bool.and_eq_true, decide_eq_true_eq] at h
  simp at h
  omega
theorem u16_wf {n : Int} (h : (Lit.int .u16 n).wf = true) : 0 ≤ n ∧ n ≤ 65535 := by
  simp only [Lit.wf, IntKind.min, IntKind.max, IntKind.signed, IntKind.bits, Bool.and_eq_true, decide_eq_true_eq] at h
  simp at h
  omega
theorem long_digit (x : Nat) (h : x < 4294967296) : by_ (strOfNums [(48 + ((Int.tmod (x : Int) 10) % 256)) % 256]) = [UInt8.ofNat (48 + x % 10)] ∧ (Int.tdiv (x : Int) 10) % 4294967296 = ((x / 10 : Nat) : Int) := by
  rw [by_nums]
  have e : Int.tmod (x : Int) 10 = ((x % 10 : Nat) : Int) := by rw [Int.tmod_eq_emod_of_nonneg (by omega)]; omega
  have e3 : Int.tdiv (x : Int) 10 = ((x / 10 : Nat) : Int) := by rw [Int.tdiv_eq_ediv_of_nonneg (by omega)]; omega
  have e2 : ((48 : Int) + ((x % 10 : Nat) : Int) % 256) % 256 = ((48 + x % 10 : Nat) : Int) := by omega
  simp only [List.map_cons, List.map_nil]
  rw [e, e2, e3, Int.toNat_natCast]
  exact ⟨rfl, by omega⟩
theorem long_loop : ∀ (d x : Nat) (s : ByteArray), x < 10 ^ d → x < 4294967296 → by_ s ≠ [] → s.size + d ≤ 1000 →
    Ev (fun k => archivistlaw03_long.l0 k (x : Int) s) ⟨((if x = 0 then [] else decDigits x) ++ by_ s).toArray⟩ := by
  intro d
  induction d with
  | zero =>
    intro x s hx hx2 hne hs
    have hx0 : x = 0 := by simpa using hx
    refine Ev.step (fun _ => rfl) ?_
    simp only [archivistlaw03_long.l0]
    refine Ev.neg (by rw [toList_by]; exact hne) (Ev.neg (by omega) (Ev.ret ?_))
    rw [if_pos hx0]
    exact by_ext (by_mk _).symm
  | succ d ih =>
    intro x s hx hx2 hne hs
    refine Ev.step (fun _ => rfl) ?_
    simp only [archivistlaw03_long.l0]
    refine Ev.neg (by rw [toList_by]; exact hne) ?_
    by_cases h0 : x = 0
    · refine Ev.neg (by omega) (Ev.ret ?_)
      rw [if_pos h0]
      exact by_ext (by_mk _).symm
    · obtain ⟨d1, d2⟩ := long_digit x hx2
      rw [d2]
      refine Ev.pos (by omega) (Ev.one ?_)
      generalize strOfNums [(48 + ((Int.tmod (x : Int) 10) % 256)) % 256] = t at *
      have ht : t.size = 1 := by rw [← by_length, d1]; rfl
      refine Ev.pos (by omega) ?_
      have h := ih (x / 10) (t ++ s) (by rw [Nat.pow_succ] at hx; omega) (by omega) (by rw [by_append, d1]; simp) (by rw [ByteArray.size_append]; omega)
      rw [by_append, d1, ← List.append_assoc] at h
      have e : (if x / 10 = 0 then [] else decDigits (x / 10)) ++ [UInt8.ofNat (48 + x % 10)] = decDigits x := by
        by_cases h1 : x / 10 = 0
        · rw [if_pos h1, dec_small (by omega), List.nil_append]
          congr 3
          omega
        · rw [if_neg h1, ← dec_great (by omega)]
      rw [e] at h
      rw [if_neg h0]
      exact h
theorem long_ev {n : Int} (h : 0 ≤ n ∧ n < 4294967296) : Ev (fun k => archivistlaw03_long.f k n) ⟨(itoa n).toArray⟩ := by
  obtain ⟨x, rfl⟩ := Int.eq_ofNat_of_zero_le h.1
  unfold archivistlaw03_long.f
  refine Ev.step (fun _ => rfl) ?_
  simp only [archivistlaw03_long.l0]
  obtain ⟨d1, d2⟩ := long_digit x (by omega)
  rw [d2]
  refine Ev.pos (by rw [toList_by]; rfl) (Ev.one ?_)
  generalize strOfNums [(48 + ((Int.tmod (x : Int) 10) % 256)) % 256] = t at *
  have ht : t.size = 1 := by rw [← by_length, d1]; rfl
  have e0 : t ++ (⟨#[]⟩ : ByteArray) = t := by_ext (by rw [by_append]; exact List.append_nil _)
  rw [e0]
  refine Ev.pos (by rw [ht]; decide) ?_
  have h2 := long_loop 20 (x / 10) t (by
    have e : (10 : Nat) ^ 20 = 100000000000000000000 := by decide
    rw [e]
    omega) (by omega) (by rw [d1]; simp) (by omega)
  rw [d1] at h2
  have e : (if x / 10 = 0 then [] else decDigits (x / 10)) ++ [UInt8.ofNat (48 + x % 10)] = decDigits x := by
    by_cases h1 : x / 10 = 0
    · rw [if_pos h1, dec_small (by omega), List.nil_append]
      congr 3
      omega
    · rw [if_neg h1, ← dec_great (by omega)]
  rw [e] at h2
  have e4 : itoa (x : Int) = decDigits x := by unfold itoa; rw [if_neg (by omega)]; rfl
  rw [e4]
  exact h2
def nmK : List ByteArray := [⟨#[66]⟩, ⟨#[75, 66]⟩, ⟨#[77, 66]⟩, ⟨#[71, 66]⟩]
def powK (k : Nat) : Int := match k with
  | 0 => 1
  | 1 => 1024
  | 2 => 1048576
  | _ => 1073741824
theorem sizes_end (m : Int) (k : Nat) (hk : k ≤ 3) (hm : 0 < m) (he : k = 3 ∨ m % 1024 ≠ 0) : sizeT (m * powK k) bL = (itoa m ++ by_ (rdOf ByteArray.empty nmK (k : Int)), true) := by
  have hb : bL = [([71, 66], 1073741824), ([77, 66], 1048576), ([75, 66], 1024), ([66], 1)] := rfl
  rw [hb]
  match k, hk with
  | 3, _ =>
    simp only [powK, sizeT]
    rw [if_pos (by omega), show m * 1073741824 / 1073741824 = m by omega]
    rfl
  | 2, _ =>
    have h := he.resolve_left (by decide)
    simp only [powK, sizeT]
    rw [if_neg (by omega), if_pos (by omega), show m * 1048576 / 1048576 = m by omega]
    rfl
  | 1, _ =>
    have h := he.resolve_left (by decide)
    simp only [powK, sizeT]
    rw [if_neg (by omega), if_neg (by omega), if_pos (by omega), show m * 1024 / 1024 = m by omega]
    rfl
  | 0, _ =>
    have h := he.resolve_left (by decide)
    simp only [powK, sizeT]
    rw [if_neg (by omega), if_neg (by omega), if_neg (by omega), if_pos (by omega), show m * 1 / 1 = m by omega]
    rfl
theorem powK_succ (m : Int) (k : Nat) (hk : k < 3) : m * 1024 * powK k = m * powK (k + 1) := by
  match k, hk with
  | 0, _ => simp only [powK]; omega
  | 1, _ => simp only [powK]; omega
  | 2, _ => simp only [powK]; omega
theorem sizes_loop (x9 : ByteArray) : ∀ (d k : Nat) (m : Int), 3 - k = d → k ≤ 3 → 0 < m → m ≤ 70000 → by_ x9 = (sizeT (m * powK k) bL).1 → Ev (fun q => archivistlaw03_UnitSizes.l0 q true nmK (k : Int) m x9 true) true := by
  intro d
  induction d with
  | zero =>
    intro k m hd hk hm hM hx
    obtain rfl : k = 3 := by omega
    rw [sizes_end m 3 (by omega) hm (.inl rfl)] at hx
    have im : in64 m := ⟨by omega, by omega⟩
    have hz := text_size _ im
    have last : Ev (fun q => (archivistlaw03_long.f q (m % 4294967296)).bind fun t354 => (if (0 : Int) ≤ (3 : Nat) then (if ((3 : Nat) : Int) < (nmK.length : Int) then (if t354.size + (rdOf ByteArray.empty nmK ((3 : Nat) : Int)).size ≤ 9223372036854775807 then (some (x9.toList == (t354 ++ (rdOf ByteArray.empty nmK ((3 : Nat) : Int))).toList)) else (none)) else (none)) else (none))) true := by
      rw [show m % 4294967296 = m by omega]
      refine Ev.bind (long_ev (by omega)) (Ev.pos (by omega) (Ev.pos (by decide) (Ev.pos ?_ (Ev.ret ?_))))
      · have : (rdOf ByteArray.empty nmK ((3 : Nat) : Int)).size ≤ 2 := by decide
        omega
      · rw [toList_by, toList_by, hx, by_append, by_mk]
        exact beq_self_eq_true _
    refine Ev.step (fun _ => rfl) ?_
    simp only [archivistlaw03_UnitSizes.l0]
    by_cases h0 : Int.tmod m 1024 = 0
    · exact Ev.pos h0 (Ev.neg (by omega) (Ev.pos (by first | trivial | rfl) (Ev.pos (by first | trivial | rfl) last)))
    · exact Ev.neg h0 (Ev.pos (by first | trivial | rfl) (Ev.pos (by first | trivial | rfl) last))
  | succ d ih =>
    intro k m hd hk hm hM hx
    have tm := Int.tmod_eq_emod_of_nonneg (b := 1024) (by omega : 0 ≤ m)
    have td := Int.tdiv_eq_ediv_of_nonneg (b := 1024) (by omega : 0 ≤ m)
    refine Ev.step (fun _ => rfl) ?_
    simp only [archivistlaw03_UnitSizes.l0]
    rw [tm, td]
    by_cases h0 : m % 1024 = 0
    · refine Ev.pos h0 (Ev.pos (by omega) ?_)
      rw [w1 k (by omega), wrap_in (x := m / 1024) (by omega) (by omega)]
      refine ih (k + 1) (m / 1024) (by omega) (by omega) (by omega) (by omega) ?_
      have e : m / 1024 * powK (k + 1) = m * powK k := by
        rw [← powK_succ _ k (by omega)]
        rw [show m / 1024 * 1024 = m by omega]
      rw [e]
      exact hx
    · rw [sizes_end m k hk hm (.inr h0)] at hx
      have im : in64 m := ⟨by omega, by omega⟩
      have hz := text_size _ im
      refine Ev.neg h0 (Ev.pos (by first | trivial | rfl) (Ev.pos (by first | trivial | rfl) ?_))
      rw [show m % 4294967296 = m by omega]
      have hlen : (nmK.length : Int) = 4 := rfl
      refine Ev.bind (long_ev (by omega)) (Ev.pos (by omega) (Ev.pos (by omega) (Ev.pos ?_ (Ev.ret ?_))))
      · have : (rdOf ByteArray.empty nmK (k : Int)).size ≤ 2 := by
          match k, hk with
          | 0, _ => decide
          | 1, _ => decide
          | 2, _ => decide
          | 3, _ => decide
        omega
      · rw [toList_by, toList_by, hx, by_append, by_mk]
        exact beq_self_eq_true _
theorem UnitSizes : archivistlaw03_UnitSizes.PureS := by
  intro n c gn gc
  have hn := u16_wf gn
  have hc := u8_wf gc
  refine Ev.rounds ?_
  unfold archivistlaw03_UnitSizes.f
  refine Ev.bind unitExamples_ev (Ev.pos (by first | trivial | rfl) ?_)
  have tc := Int.tmod_eq_emod_of_nonneg (b := 4) hc.1
  obtain ⟨K, hK⟩ : ∃ q, Int.tmod c 4 = q := ⟨_, rfl⟩
  rw [hK]
  obtain ⟨k, rfl⟩ := Int.eq_ofNat_of_zero_le (show 0 ≤ K by omega)
  have hk : k ≤ 3 := by omega
  have e1 : wrap64 n = n := wrap_in (by omega) (by omega)
  have e2 : wrap64 (n + 1) = n + 1 := wrap_in (by omega) (by omega)
  have e3 : wrap64 (k : Int) = (k : Int) := wrap_in (by omega) (by omega)
  have e4 : wrap64 (10 * (k : Int)) = 10 * (k : Int) := wrap_in (by omega) (by omega)
  rw [e1, e2, e3, e4]
  have hs : shl .i64 (n + 1) (10 * (k : Int)) = (n + 1) * powK k := by
    unfold shl
    match k, hk with
    | 0, _ => rw [show (2 : Int) ^ min (10 * ((0 : Nat) : Int)).toNat IntKind.i64.bits = 1 from rfl]; exact Go.IntWalk.i64_in _ (by omega)
    | 1, _ => rw [show (2 : Int) ^ min (10 * ((1 : Nat) : Int)).toNat IntKind.i64.bits = 1024 from rfl]; exact Go.IntWalk.i64_in _ (by omega)
    | 2, _ => rw [show (2 : Int) ^ min (10 * ((2 : Nat) : Int)).toNat IntKind.i64.bits = 1048576 from rfl]; exact Go.IntWalk.i64_in _ (by omega)
    | 3, _ => rw [show (2 : Int) ^ min (10 * ((3 : Nat) : Int)).toNat IntKind.i64.bits = 1073741824 from rfl]; exact Go.IntWalk.i64_in _ (by omega)
  rw [hs]
  have hpow : 0 < (n + 1) * powK k ∧ (n + 1) * powK k ≤ 70368744177664 := by
    match k, hk with
    | 0, _ => simp only [powK]; omega
    | 1, _ => simp only [powK]; omega
    | 2, _ => simp only [powK]; omega
    | 3, _ => simp only [powK]; omega
  have hN : in64 ((n + 1) * powK k) := ⟨by omega, by omega⟩
  refine Ev.pos (by omega) (Ev.bind (sizeU_ev hN) ?_)
  have hR : sizeR ((n + 1) * powK k) = (⟨(sizeT ((n + 1) * powK k) bL).1.toArray⟩, (sizeT ((n + 1) * powK k) bL).2) := by
    unfold sizeR
    rw [if_neg (by omega), if_neg (by omega)]
  have h2 : (sizeT ((n + 1) * powK k) bL).2 = true := by
    have := (byt_back (by omega) hN).1
    rw [hR] at this
    exact this
  rw [hR, h2]
  exact sizes_loop _ (3 - k) k (n + 1) rfl hk (by omega) (by omega) (by_mk _)
end Go.Proofs.YtpijoadbaocnpaaDoor.Pure
