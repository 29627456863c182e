/-
  Numbers in digits: what is told is read, by the program and by the document's own answer, for the seat YtpijoadbaocnpaaDoor.
-/
import Derived.Test.YtpijoadbaocnpaaDoorX1
import Derived.Test.YtpijoadbaocnpaaDoorX5
import Derived.Test.YtpijoadbaocnpaaDoorX6
import Derived.Test.YtpijoadbaocnpaaDoorP
import Derived.Lib.ParseIntBTie
set_option linter.unusedVariables false
set_option linter.unusedSimpArgs false
namespace Go.Proofs.YtpijoadbaocnpaaDoor.Pure
open Go.RowKit Go.Proofs.YtpijoadbaocnpaaDoor.X Go.Proofs.YtpijoadbaocnpaaDoor.B Go.Proofs.YtpijoadbaocnpaaDoorW.PrintWords Go.Proofs.YtpijoadbaocnpaaDoorW.PrintLast
open Lib (itoa decDigits parseUint10 NumEnd)

theorem dec_small {u : Nat} (h : u < 10) : decDigits u = [UInt8.ofNat (48 + u)] := by rw [decDigits, dif_pos h]
theorem dec_great {u : Nat} (h : ¬ u < 10) : decDigits u = decDigits (u / 10) ++ [UInt8.ofNat (48 + u % 10)] := by rw [decDigits, dif_neg h]
def digitB (c : UInt8) : Prop := 48 ≤ c.toNat ∧ c.toNat ≤ 57
instance (c : UInt8) : Decidable (digitB c) := inferInstanceAs (Decidable (_ ∧ _))
theorem dg_nat {d : Nat} (h : d < 10) : (UInt8.ofNat (48 + d)).toNat = 48 + d := by
  rw [UInt8.toNat_ofNat_of_lt']
  show 48 + d < 256
  omega
theorem dec_digit : ∀ (u : Nat), ∀ c ∈ decDigits u, digitB c := by
  intro u
  induction u using Nat.strongRecOn with
  | _ u ih =>
    intro c hc
    by_cases h : u < 10
    · rw [dec_small h] at hc
      obtain rfl := List.mem_singleton.1 hc
      unfold digitB
      rw [dg_nat h]
      omega
    · rw [dec_great h] at hc
      rcases List.mem_append.1 hc with hc | hc
      · exact ih (u / 10) (by omega) c hc
      · obtain rfl := List.mem_singleton.1 hc
        unfold digitB
        rw [dg_nat (by omega)]
        omega
theorem dec_len : ∀ (d u : Nat), u < 10 ^ (d + 1) → (decDigits u).length ≤ d + 1 := by
  intro d
  induction d with
  | zero =>
    intro u h
    rw [dec_small (by simpa using h)]
    simp
  | succ d ih =>
    intro u h
    by_cases h1 : u < 10
    · rw [dec_small h1]
      simp
    · rw [dec_great h1, List.length_append]
      have := ih (u / 10) (by rw [Nat.pow_succ] at h; omega)
      simp
      omega
theorem dec_ne (u : Nat) : decDigits u ≠ [] := by
  by_cases h : u < 10
  · rw [dec_small h]
    simp
  · rw [dec_great h]
    simp
theorem itoa_ne (v : Int) : itoa v ≠ [] := by
  unfold itoa
  split
  · simp
  · exact dec_ne _
theorem itoa_len {v : Int} (h : in64 v) : (itoa v).length ≤ 20 := by
  unfold in64 at h
  have := fun u (h : u < 10 ^ (18 + 1)) => dec_len 18 u h
  have e : (10 : Nat) ^ (18 + 1) = 10000000000000000000 := by decide
  rw [e] at this
  unfold itoa
  split
  · rw [List.length_cons]
    have := this v.natAbs (by omega)
    omega
  · have := this v.toNat (by omega)
    omega
theorem itoa_byte (v : Int) : ∀ c ∈ itoa v, digitB c ∨ c = 45 := by
  unfold itoa
  split
  · intro c hc
    rcases List.mem_cons.1 hc with rfl | hc
    · exact .inr rfl
    · exact .inl (dec_digit _ c hc)
  · intro c hc
    exact .inl (dec_digit _ c hc)

/-! ### the program's Parse -/
theorem pu_append : ∀ (l r : List UInt8) (a : Nat), parseUint10 a (l ++ r) = match parseUint10 a l with | .ok v => parseUint10 v r | e => e
  | [], r, a => rfl
  | c :: l, r, a => by
    simp only [List.cons_append, parseUint10]
    split
    · split
      · rfl
      · split
        · rfl
        · exact pu_append l r _
    · rfl
theorem pu_dec : ∀ (u : Nat), u < 18446744073709551616 → parseUint10 0 (decDigits u) = .ok u := by
  intro u
  induction u using Nat.strongRecOn with
  | _ u ih =>
    intro hu
    by_cases h : u < 10
    · rw [dec_small h]
      simp only [parseUint10]
      rw [dg_nat h, if_pos (by omega), if_neg (by omega), if_neg (by omega)]
      congr 1
      omega
    · rw [dec_great h, pu_append, ih (u / 10) (by omega) (by omega)]
      simp only [parseUint10]
      rw [dg_nat (by omega), if_pos (by omega), if_neg (by omega), if_neg (by omega)]
      congr 1
      omega
theorem parse_itoa {v : Int} (h : in64 v) : Lib.parseIntB 64 (itoa v) = .ok v := by
  rw [Lib.parseIntB_64]
  unfold in64 at h
  unfold itoa
  split
  · rename_i hn
    simp only [Lib.atoiAll]
    rw [if_pos (show (45 : UInt8).toNat = 43 ∨ (45 : UInt8).toNat = 45 from Or.inr rfl)]
    unfold Lib.parseMag
    rw [if_neg (dec_ne _), pu_dec _ (by omega)]
    simp only []
    rw [if_neg (fun h => h.1 rfl), if_neg (fun h => by have := h.2; omega), if_pos (show (45 : UInt8).toNat = 45 from rfl)]
    congr 1
    omega
  · rename_i hn
    cases hd : decDigits v.toNat with
    | nil => exact absurd hd (dec_ne _)
    | cons c r =>
      have hc := dec_digit v.toNat c (by rw [hd]; exact List.mem_cons_self)
      unfold digitB at hc
      simp only [Lib.atoiAll]
      rw [if_neg (by omega)]
      unfold Lib.parseMag
      rw [if_neg (by simp), ← hd, pu_dec _ (by omega)]
      simp only []
      rw [if_neg (by omega), if_neg (by omega), if_neg (by omega)]
      congr 1
      omega
theorem parseN_itoa {v : Int} (h : in64 v) : parseN (itoa v) = (v, true) := by
  unfold parseN
  rw [parse_itoa h]
  simp
theorem parseN_some {l : List UInt8} {v : Int} (h : parseN l = (v, true)) : in64 v ∧ itoa v = l := by
  unfold parseN at h
  split at h
  · rename_i u hu
    have hb := Lib.parseIntB_bounds hu
    have e : ((2 ^ (64 - 1) : Nat) : Int) = 9223372036854775808 := by decide
    rw [e] at hb
    split at h
    · rename_i he
      obtain ⟨rfl, _⟩ := Prod.mk.inj h
      exact ⟨⟨by omega, by omega⟩, he⟩
    · cases h
  · cases h
theorem parseN_or (l : List UInt8) : parseN l = (0, false) ∨ ∃ v, in64 v ∧ itoa v = l ∧ parseN l = (v, true) := by
  cases h : parseN l with
  | mk v b =>
    cases b with
    | true => exact .inr ⟨v, (parseN_some h).1, (parseN_some h).2, rfl⟩
    | false =>
      left
      unfold parseN at h
      split at h
      · split at h
        · cases h
        · exact h.symm
      · exact h.symm
theorem parseN_none {l : List UInt8} (h : ∀ v, in64 v → itoa v ≠ l) : parseN l = (0, false) := by
  rcases parseN_or l with h1 | ⟨v, h1, h2, _⟩
  · exact h1
  · exact absurd h2 (h v h1)
theorem itoa_inj {v w : Int} (hv : in64 v) (hw : in64 w) (h : itoa v = itoa w) : v = w := by
  have h1 := parseN_itoa hv
  rw [h, parseN_itoa hw] at h1
  exact (Prod.mk.inj h1).1.symm
theorem text_ev {v : Int} (h : in64 v) : num_Text.f v = some ⟨(itoa v).toArray⟩ := by
  unfold num_Text.f
  unfold in64 at h
  rw [if_pos h]
theorem parse_ev (s : ByteArray) (h : s.size ≤ 281474976710656) : num_Parse.f s = some (parseN (by_ s)) := by
  unfold num_Parse.f
  rw [if_pos h]
  rfl

/-! ### the document's Text -/
theorem refDigit (x : Nat) (h : x < 18446744073709551616) : by_ (strOfNums [(IntKind.u64.wrap (48 + (Int.tmod (x : Int) 10))) % 256]) = [UInt8.ofNat (48 + x % 10)] := by
  rw [by_nums]
  have e : Int.tmod (x : Int) 10 = ((x % 10 : Nat) : Int) := by rw [Int.tmod_eq_emod_of_nonneg (by omega)]; omega
  rw [e, Go.IntWalk.u64_in _ (by omega)]
  have e2 : ((48 : Int) + ((x % 10 : Nat) : Int)) % 256 = ((48 + x % 10 : Nat) : Int) := by omega
  simp only [List.map_cons, List.map_nil]
  rw [e2, Int.toNat_natCast]
def signP (n : Int) (l : List UInt8) : List UInt8 := if n < 0 then 45 :: l else l
theorem refText_loop (n : Int) : ∀ (d x : Nat) (s : ByteArray), x < 10 ^ (d + 1) → x < 18446744073709551616 → s.size + d ≤ 1000 →
    Ev (fun k => archivistref02_Text.l0 k n (x : Int) s) ⟨(signP n ((if x < 10 then [] else decDigits (x / 10)) ++ by_ s)).toArray⟩ := by
  intro d
  induction d with
  | zero =>
    intro x s hx hx2 hs
    have hx' : x < 10 := by simpa using hx
    refine Ev.step (fun _ => rfl) ?_
    simp only [archivistref02_Text.l0]
    refine Ev.neg (by omega) ?_
    rw [if_pos hx', List.nil_append]
    unfold signP
    by_cases hn : n < 0
    · refine Ev.pos hn (Ev.pos (by omega) (Ev.ret ?_))
      rw [if_pos hn]
      apply by_ext
      rw [by_append, by_mk]
      rfl
    · refine Ev.neg hn (Ev.ret ?_)
      rw [if_neg hn]
      exact by_ext (by_mk _).symm
  | succ d ih =>
    intro x s hx hx2 hs
    by_cases h : x < 10
    · refine Ev.step (fun _ => rfl) ?_
      simp only [archivistref02_Text.l0]
      refine Ev.neg (by omega) ?_
      rw [if_pos h, List.nil_append]
      unfold signP
      by_cases hn : n < 0
      · refine Ev.pos hn (Ev.pos (by omega) (Ev.ret ?_))
        rw [if_pos hn]
        apply by_ext
        rw [by_append, by_mk]
        rfl
      · refine Ev.neg hn (Ev.ret ?_)
        rw [if_neg hn]
        exact by_ext (by_mk _).symm
    · have eq : IntKind.u64.wrap (Int.tdiv (x : Int) 10) = ((x / 10 : Nat) : Int) := by rw [Go.IntWalk.u64_quo _ _ (by omega)]; omega
      have hd := refDigit (x / 10) (by omega)
      refine Ev.step (fun _ => rfl) ?_
      simp only [archivistref02_Text.l0]
      refine Ev.pos (by omega) (Ev.one ?_)
      rw [eq]
      generalize ht : strOfNums [(IntKind.u64.wrap (48 + (Int.tmod ((x / 10 : Nat) : Int) 10))) % 256] = t at *
      have hts : t.size = 1 := by rw [← by_length, hd]; rfl
      refine Ev.pos (by rw [hts]; omega) ?_
      have h1 := ih (x / 10) (t ++ s) (by rw [Nat.pow_succ] at hx; omega) (by omega) (by rw [ByteArray.size_append, hts]; omega)
      rw [by_append, hd, ← List.append_assoc] at h1
      have e3 : (if x / 10 < 10 then [] else decDigits (x / 10 / 10)) ++ [UInt8.ofNat (48 + x / 10 % 10)] = decDigits (x / 10) := by
        by_cases h2 : x / 10 < 10
        · rw [if_pos h2, dec_small h2, List.nil_append]
          congr 3
          omega
        · rw [if_neg h2, ← dec_great h2]
      rw [e3] at h1
      rw [if_neg h]
      exact h1
theorem refText_ev {n : Int} (h : in64 n) : Ev (fun k => archivistref02_Text.f k n) ⟨(itoa n).toArray⟩ := by
  unfold archivistref02_Text.f
  rw [refSize_ev h]
  refine Ev.one ?_
  have ha := abs_le h
  obtain ⟨x, hx⟩ := Int.eq_ofNat_of_zero_le ha.1
  rw [hx] at ha ⊢
  have hd := refDigit x (by omega)
  have hsz : (strOfNums [(IntKind.u64.wrap (48 + (Int.tmod (x : Int) 10))) % 256]).size = 1 := by rw [← by_length, hd]; rfl
  have h1 := refText_loop n 30 x _ (by
    have e : (10 : Nat) ^ (30 + 1) = 10000000000000000000000000000000 := by decide
    rw [e]
    omega) (by omega) (by rw [hsz]; omega)
  rw [hd] at h1
  have e3 : (if x < 10 then [] else decDigits (x / 10)) ++ [UInt8.ofNat (48 + x % 10)] = decDigits x := by
    by_cases h2 : x < 10
    · rw [if_pos h2, dec_small h2, List.nil_append]
      congr 3
      omega
    · rw [if_neg h2, ← dec_great h2]
  rw [e3] at h1
  have e4 : signP n (decDigits x) = itoa n := by
    unfold signP itoa
    unfold absI at hx
    split
    · rename_i hn
      rw [if_pos hn] at hx
      congr 2
      omega
    · rename_i hn
      rw [if_neg hn] at hx
      congr 1
      omega
  rw [e4] at h1
  exact h1

/-! ### the document's Parse -/
def decR (a : Nat) : List UInt8 → Option Nat
  | [] => some a
  | c :: l => if digitB c then decR ((a * 10 + (c.toNat - 48)) % 18446744073709551616) l else none
theorem decR_append : ∀ (l r : List UInt8) (a : Nat), decR a (l ++ r) = (decR a l).bind fun b => decR b r
  | [], r, a => rfl
  | c :: l, r, a => by
    simp only [List.cons_append, decR]
    split
    · exact decR_append l r _
    · rfl
theorem decR_dec : ∀ (u : Nat), u < 18446744073709551616 → decR 0 (decDigits u) = some u := by
  intro u
  induction u using Nat.strongRecOn with
  | _ u ih =>
    intro hu
    by_cases h : u < 10
    · rw [dec_small h]
      simp only [decR]
      rw [if_pos (show digitB _ from by unfold digitB; rw [dg_nat h]; omega), dg_nat h]
      congr 1
      omega
    · rw [dec_great h, decR_append, ih (u / 10) (by omega) (by omega)]
      simp only [decR, Option.bind_some]
      rw [if_pos (show digitB _ from by unfold digitB; rw [dg_nat (by omega)]; omega), dg_nat (by omega)]
      congr 1
      omega
def endR (l : List UInt8) (at_ : Int) (n : Nat) : Int × Bool :=
  let m := if at_ = 1 then wrap64 (-(wrap64 (n : Int))) else wrap64 (n : Int)
  if itoa m = l then (m, true) else (0, false)
theorem refParse_loop (s : ByteArray) (hs : s.size ≤ 20) (a : Int) (ha : a = 0 ∨ a = 1) : ∀ (d i n : Nat), s.size - i = d → i ≤ s.size → n < 18446744073709551616 →
    Ev (fun k => archivistref02_Parse.l0 k s (n : Int) a (i : Int)) (match decR n ((by_ s).drop i) with | none => (0, false) | some m => endR (by_ s) a m) := by
  intro d
  have hb := by_length s
  induction d with
  | zero =>
    intro i n hd hi hn
    rw [List.drop_of_length_le (by omega)]
    refine Ev.step (fun _ => rfl) ?_
    simp only [archivistref02_Parse.l0, decR]
    refine Ev.neg (by omega) ?_
    unfold endR
    by_cases h1 : a = 1
    · refine Ev.pos h1 (Ev.bind (refText_ev (in64_wrap _)) ?_)
      simp only [h1, if_true]
      rw [toList_by, toList_by, by_mk]
      by_cases h2 : itoa (wrap64 (-(wrap64 (n : Int)))) = by_ s
      · simp only [if_pos h2]
        exact Ev.now _
      · simp only [if_neg h2]
        exact Ev.now _
    · refine Ev.neg h1 (Ev.bind (refText_ev (in64_wrap _)) ?_)
      simp only [h1, if_false]
      rw [toList_by, toList_by, by_mk]
      by_cases h2 : itoa (wrap64 (n : Int)) = by_ s
      · simp only [if_pos h2]
        exact Ev.now _
      · simp only [if_neg h2]
        exact Ev.now _
  | succ d ih =>
    intro i n hd hi hn
    have hlt : i < (by_ s).length := by omega
    have hc := bt_by s i hlt
    rw [List.drop_eq_getElem_cons hlt]
    generalize (by_ s)[i] = c at *
    refine Ev.step (fun _ => rfl) ?_
    simp only [archivistref02_Parse.l0, decR]
    refine Ev.pos (by omega) (Ev.pos (by omega) ?_)
    rw [hc]
    have hc2 := c.toNat_lt
    by_cases h1 : (c.toNat : Int) < 48
    · rw [if_neg (show ¬ digitB c from by unfold digitB; omega)]
      exact Ev.pos h1 (Ev.now _)
    · by_cases h2 : (c.toNat : Int) > 57
      · rw [if_neg (show ¬ digitB c from by unfold digitB; omega)]
        exact Ev.neg h1 (Ev.pos h2 (Ev.now _))
      · rw [if_pos (show digitB c from by unfold digitB; omega)]
        refine Ev.neg h1 (Ev.neg h2 ?_)
        have e : IntKind.u64.wrap (IntKind.u64.wrap ((n : Int) * 10) + ((c.toNat : Int) - 48) % 256) = (((n * 10 + (c.toNat - 48)) % 18446744073709551616 : Nat) : Int) := by
          simp [IntKind.wrap, IntKind.bits, IntKind.signed]
          omega
        rw [e, w1 i (by omega)]
        exact ih (i + 1) _ (by omega) (by omega) (Nat.mod_lt _ (by decide))
theorem endR_or (l : List UInt8) (a : Int) (n : Nat) : endR l a n = (0, false) ∨ ∃ v, in64 v ∧ itoa v = l ∧ endR l a n = (v, true) := by
  unfold endR
  by_cases h1 : a = 1
  · simp only [h1, if_true]
    split
    · rename_i h
      exact .inr ⟨_, in64_wrap _, h, rfl⟩
    · exact .inl rfl
  · simp only [h1, if_false]
    split
    · rename_i h
      exact .inr ⟨_, in64_wrap _, h, rfl⟩
    · exact .inl rfl
theorem refParse_ev (s : ByteArray) : Ev (fun k => archivistref02_Parse.f k s) (parseN (by_ s)) := by
  have hb := by_length s
  unfold archivistref02_Parse.f
  by_cases h0 : by_ s = []
  · refine Ev.pos (by rw [toList_by]; exact h0) (Ev.step (fun _ => rfl) ?_)
    simp only [archivistref02_Parse.j0]
    refine Ev.pos trivial (Ev.ret ?_)
    rw [parseN_none (fun v _ h => itoa_ne v (h.trans h0))]
  refine Ev.neg (by rw [toList_by]; exact h0) (Ev.step (fun _ => rfl) ?_)
  simp only [archivistref02_Parse.j0]
  by_cases h1 : (s.size : Int) > 20
  · refine Ev.pos (decide_eq_true h1) (Ev.ret ?_)
    rw [parseN_none (fun v hv h => ?_)]
    have := itoa_len hv
    rw [h] at this
    omega
  refine Ev.neg (by simpa using h1) ?_
  have hpos : 0 < (by_ s).length := List.length_pos_iff.2 h0
  refine Ev.pos (by omega) ?_
  have hc : bt s 0 = (((by_ s)[0]).toNat : Int) := bt_by s 0 hpos
  -- where the text is a number's, what is read is it
  have key : ∀ (a : Int) (i : Nat), (a = 0 ∨ a = 1) → (∀ v, in64 v → itoa v = by_ s → ∃ m, decR 0 ((by_ s).drop i) = some m ∧ endR (by_ s) a m = (v, true)) →
      (match decR 0 ((by_ s).drop i) with | none => (0, false) | some m => endR (by_ s) a m) = parseN (by_ s) := by
    intro a i ha h
    rcases parseN_or (by_ s) with h2 | ⟨v, h2, h3, h4⟩
    · rw [h2]
      cases hd : decR 0 ((by_ s).drop i) with
      | none => rfl
      | some m =>
        rcases endR_or (by_ s) a m with h5 | ⟨v, h5, h6, h7⟩
        · exact h5
        · have := parseN_itoa h5
          rw [h6, h2] at this
          cases this
    · obtain ⟨m, h5, h6⟩ := h v h2 h3
      rw [h5, h4]
      exact h6
  by_cases h2 : bt s 0 = 45
  · refine Ev.pos h2 (Ev.step (fun _ => rfl) ?_)
    simp only [archivistref02_Parse.j1]
    have h3 := refParse_loop s (by omega) 1 (.inr rfl) (s.size - 1) 1 0 rfl (by omega) (by omega)
    rw [key 1 1 (.inr rfl) (fun v hv he => ?_)] at h3
    · exact h3
    · have hn : v < 0 := by
        rcases Int.lt_or_le v 0 with h | h
        · exact h
        · exfalso
          unfold itoa at he
          rw [if_neg (by omega)] at he
          have : digitB (by_ s)[0] := dec_digit v.toNat _ (by rw [he]; exact List.getElem_mem _)
          unfold digitB at this
          omega
      unfold in64 at hv
      have he2 := he
      unfold itoa at he2
      rw [if_pos hn] at he2
      refine ⟨v.natAbs, by rw [← he2]; exact decR_dec _ (by omega), ?_⟩
      unfold endR
      have e : wrap64 (-(wrap64 (v.natAbs : Int))) = v := by unfold wrap64; omega
      simp only [if_true]
      rw [e, if_pos he]
  · refine Ev.neg h2 (Ev.step (fun _ => rfl) ?_)
    simp only [archivistref02_Parse.j1]
    have h3 := refParse_loop s (by omega) 0 (.inl rfl) (s.size - 0) 0 0 rfl (by omega) (by omega)
    rw [key 0 0 (.inl rfl) (fun v hv he => ?_)] at h3
    · exact h3
    · have hn : ¬ v < 0 := by
        intro hn
        unfold itoa at he
        rw [if_pos hn] at he
        have : (by_ s)[0] = 45 := by simp [← he]
        rw [this] at hc
        exact h2 hc
      unfold in64 at hv
      have he2 := he
      unfold itoa at he2
      rw [if_neg hn] at he2
      refine ⟨v.toNat, by rw [List.drop_zero, ← he2]; exact decR_dec _ (by omega), ?_⟩
      unfold endR
      have e : wrap64 (v.toNat : Int) = v := by unfold wrap64; omega
      simp only [show ¬ ((0 : Int) = 1) from by decide, if_false]
      rw [e, if_pos he]
end Go.Proofs.YtpijoadbaocnpaaDoor.Pure
