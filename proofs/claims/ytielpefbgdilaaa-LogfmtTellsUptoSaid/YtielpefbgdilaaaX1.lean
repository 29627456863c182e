-- Laid by xprint.py, a program of this session's, out of the translation.
import Derived.Test.YtielpefbgdilaaaX0
namespace Go.Proofs.Ytielpefbgdilaaa.X
open Go.RowKit Go.Proofs.YtielpefbgdilaaaW.PrintWords Go.Proofs.YtielpefbgdilaaaW.PrintLast Go.Proofs.YtielpefbgdilaaaW.PrintMore
attribute [local go_sem] max2_int min2_int max_two min_two max_three min_three max_four min_four x_isSome x_str_gtr x_str_leq x_str_geq   -- for this text's walks alone
set_option linter.unusedVariables false
set_option linter.unusedSimpArgs false

/-! ### strings_IndexAny: function 48 -/
section
open Go.Lib Go.Shelf Go.Proofs Go.RowKit
variable {P : Program} {ρ : Go.Shelf.Ren}
theorem rn_enc (r : Int) (h : 128 ≤ r) : 2 ≤ (Utf8.encode r).size ∧ (Utf8.encode r).size ≤ 4 ∧ ∀ (i : Nat) b, (Utf8.encode r).data.toList[i]? = some b → 128 ≤ b.toNat := by
 unfold Utf8.encode
 obtain ⟨c, hc⟩ : ∃ c : Nat, (if Utf8.valid r then r.toNat else Utf8.runeError) = c := ⟨_, rfl⟩
 have h128 : 128 ≤ c := by
  rw [← hc]
  split
  ·omega
  ·decide
 simp only [hc]
 rw [if_neg (by omega)]
 split
 ·refine ⟨(show 2 ≤ 2 by decide), (show 2 ≤ 4 by decide), fun i b hb => ?_⟩
  match i, hb with
  | 0, hb => simp at hb; subst hb; simp; omega
  | 1, hb => simp at hb; subst hb; simp; omega
 ·split
  ·refine ⟨(show 2 ≤ 3 by decide), (show 3 ≤ 4 by decide), fun i b hb => ?_⟩
   match i, hb with
   | 0, hb => simp at hb; subst hb; simp; omega
   | 1, hb => simp at hb; subst hb; simp; omega
   | 2, hb => simp at hb; subst hb; simp; omega
  ·refine ⟨(show 2 ≤ 4 by decide), (show 4 ≤ 4 by decide), fun i b hb => ?_⟩
   have hlt : c ≤ 1114111 ∨ 1114111 < c := by omega
   match i, hb with
   | 0, hb =>
    simp at hb
    subst hb
    have : c < 2097152 := by
     rw [← hc]
     split
     ·rename_i hv
      unfold Utf8.valid at hv
      simp at hv
      omega
     ·decide
    simp
    omega
   | 1, hb => simp at hb; subst hb; simp; omega
   | 2, hb => simp at hb; subst hb; simp; omega
   | 3, hb => simp at hb; subst hb; simp; omega
set_option maxHeartbeats 4000000 in
set_option maxRecDepth 1000000 in
theorem rn_err (L : Lays.n152 P ρ) (s : ByteArray) (w : World) (hs : ∀ (j : Nat) b, s.data.toList[j]? = some b → b.toNat < 128) :
  Calls P (ρ.f 152) #[.string s, .int .i32 65533] w fun e w' => e = .returned (.int .i64 (-1)) ∧ Below w.heap.size w w' := by
 have HA : Aside (∀ (j : Nat) b, s.data.toList[j]? = some b → b.toNat < 128) := hs
 clear hs
 have t3 := L.t3; have a3 := L.a3; have z3 := L.z3; have v3 := L.v3
 have t4 := L.t4; have a4 := L.a4; have z4 := L.z4; have v4 := L.v4
 have t5 := L.t5; have a5 := L.a5; have z5 := L.z5; have v5 := L.v5
 have t9 := L.t9; have a9 := L.a9; have z9 := L.z9; have v9 := L.v9
 have t21 := L.t21; have a21 := L.a21; have z21 := L.z21; have v21 := L.v21
 go_enter L.f152, Body.n152_ntmps ρ
 go_wp2
 go_loopg [5, 6] s.size (fun g _ _ wx => ∃ i : Nat, i + g = s.size ∧ wx = w.iter s i)
 case atStart => exact ⟨0, by omega, rfl⟩
 case round =>
  obtain ⟨i, hig, rfl⟩ := hrel
  cases gk with
  | zero =>
   obtain rfl : i = s.size := by omega
   have hnx := run_next_end (P := P) w s s.size
   go_wp2
   go_ret
   exact ⟨rfl, (Below.refl _ _).alloc (Nat.le_refl _) _⟩
  | succ g =>
   have hi : i < s.size := by omega
   obtain ⟨x, hx⟩ : ∃ x : UInt8, s[i]'hi = x := ⟨_, rfl⟩
   have hxl : s.data.toList[i]? = some x := by rw [← hx]; exact Lib.data_getElem? s i hi
   have hx128 : x.toNat < 128 := HA.out i x hxl
   have hnx := fun ty => run_next_ascii (P := P) w s i ty hi (by rw [hx]; exact hx128)
   rw [hx] at hnx
   have hne : ((x.toNat : Int) == 65533) = false := beq_eq_false_iff_ne.2 (by omega)
   clear hxl hx
   go_wp2
   go_roundg g
   case measure => omega
   case rel => exact ⟨i + 1, by omega, rfl⟩
theorem rn_none : ∀ {l : List UInt8} {c : UInt8}, (∀ b ∈ l, b ≠ c) → Lib.indexByte l c = -1
 | [], _, _ => rfl
 | x :: l, c, h => by
  rw [Lib.indexByte, if_neg (by rw [beq_iff_eq]; exact h x (by simp)), rn_none (c := c) (fun b hb => h b (by simp [hb]))]
  rfl
def rnB (r : Int) : Bool := decide (r < 55296) || (decide (57343 < r) && decide (r ≤ 1114111))
set_option maxHeartbeats 2000000 in
set_option maxRecDepth 1000000 in
theorem rn_valid (L : Lays.n152 P ρ) (r : Int) (w : World) (hr : 128 ≤ r) : Calls P (ρ.f 119) #[.int .i32 r] w fun e w' => e = .returned (.bool (rnB r)) ∧ w' = w := by
 have t4 := L.t4; have a4 := L.a4; have z4 := L.z4; have v4 := L.v4
 have t21 := L.t21; have a21 := L.a21; have z21 := L.z21; have v21 := L.v21
 unfold rnB
 by_cases h1 : r < 55296
 ·rw [decide_eq_true h1, Bool.true_or]
  go_enter L.f119, Body.n119_ntmps ρ
  go_wp2
  go_ret
  exact ⟨rfl, rfl⟩
 ·rw [decide_eq_false h1, Bool.false_or]
  by_cases h2 : 57343 < r
  ·rw [decide_eq_true h2, Bool.true_and]
   by_cases h3 : r ≤ 1114111
   ·rw [decide_eq_true h3]
    go_enter L.f119, Body.n119_ntmps ρ
    go_wp2
    go_ret
    exact ⟨rfl, rfl⟩
   ·rw [decide_eq_false h3]
    go_enter L.f119, Body.n119_ntmps ρ
    go_wp2
    go_ret
    exact ⟨rfl, rfl⟩
  ·rw [decide_eq_false h2, Bool.false_and]
   go_enter L.f119, Body.n119_ntmps ρ
   go_wp2
   go_ret
   exact ⟨rfl, rfl⟩
set_option maxHeartbeats 4000000 in
set_option maxRecDepth 1000000 in
theorem rn_high (L : Lays.n152 Try.prog ρ) (s en : ByteArray) (r : Int) (n : Nat) (w : World) (hr : 128 ≤ r) (h5 : r ≠ 65533) (hsz : s.size < 4294967281) (hs : ∀ (j : Nat) b, s.data.toList[j]? = some b → b.toNat < 128)
  (hen : Utf8.encode r = en) (hn : en.size = n + 1) (hn4 : n ≤ 3) (eb : ∀ (i : Nat) b, en.data.toList[i]? = some b → 128 ≤ b.toNat) :
  Calls Try.prog (ρ.f 152) #[.string s, .int .i32 r] w fun e w' => e = .returned (.int .i64 (-1)) ∧ Below w.heap.size w w' := by
 have t3 := L.t3; have a3 := L.a3; have z3 := L.z3; have v3 := L.v3
 have t4 := L.t4; have a4 := L.a4; have z4 := L.z4; have v4 := L.v4
 have t5 := L.t5; have a5 := L.a5; have z5 := L.z5; have v5 := L.v5
 have t9 := L.t9; have a9 := L.a9; have z9 := L.z9; have v9 := L.v9
 have t21 := L.t21; have a21 := L.a21; have z21 := L.z21; have v21 := L.v21
 have e119 : ∀ args w, (callFunc (ρ.f 119) args).run Try.prog w = .ok (.enter (ρ.f 119) args) w := enters_of L.f119 (by kernel_rfl) rfl
 have e137 : ∀ args w, (callFunc (ρ.f 137) args).run Try.prog w = .ok (.enter (ρ.f 137) args) w := enters_of L.f137 (by kernel_rfl) rfl
 have c1 : ¬ (r < 128) := by omega
 have hcv : ∀ W, (Go.convert (ρ.t 21) (ρ.t 9) (.int .i32 r)).run Try.prog W = .ok (.string en) W := fun W => by
  rw [← hen]
  simp [Go.convert, run_underlying t21, run_underlying t9, Conv.intToString]
 have c2 : (r == 65533) = false := beq_eq_false_iff_ne.2 h5
 have HS : Aside (∀ (j : Nat) b, s.data.toList[j]? = some b → b.toNat < 128) := hs
 have HEB : Aside (∀ (i : Nat) b, en.data.toList[i]? = some b → 128 ≤ b.toNat) := eb
 have HV : Aside (∀ W, Calls Try.prog (ρ.f 119) #[.int .i32 r] W fun e w' => e = .returned (.bool (rnB r)) ∧ w' = W) := fun W => rn_valid L r W hr
 have HN : Aside (en.size = n + 1) := hn
 have HEN : Aside (Utf8.encode r = en) := hen
 have HR : Aside (128 ≤ r ∧ r ≠ 65533) := ⟨hr, h5⟩
 clear hs eb hn hen hr h5
 cases hb : rnB r with
 | false =>
  rw [hb] at HV
  go_enter L.f152, Body.n152_ntmps ρ
  go_wp2_with (go_at_fn (ρ.f 119); refine (HV.out _).mono ?_; rintro e w' ⟨rfl, hw⟩; rw [hw])
  go_ret
  exact ⟨rfl, Below.refl _ _⟩
 | true =>
  rw [hb] at HV
  go_enter L.f152, Body.n152_ntmps ρ
  go_wp2_with (go_at_fn (ρ.f 119); refine (HV.out _).mono ?_; rintro e w' ⟨rfl, hw⟩; rw [hw])
  clear HV
  apply wp_scope_straight
  have hl : IntKind.i64.wrap ((en.size : Int) - 1) = (n : Int) := by rw [IntKind.wrap_i64]; have := HN.out; omega
  go_wp2
  go_loopg [9] 1 (fun _ v9 wx => v9 = .int .i64 (n : Int) ∧ wx = w)
  case atStart => exact ⟨by first | rfl | (simp [hl]; done), rfl⟩
  case round =>
   clear hl hcv
   obtain ⟨rfl, rfl⟩ := hrel
   by_cases hlt : n < s.size
   ·have hlz : decide ((n : Int) < (s.size : Int)) = true := decide_eq_true (by omega)
    obtain ⟨x, hx⟩ : ∃ x : UInt8, s[n]'hlt = x := ⟨_, rfl⟩
    have hne : n < en.size := by have := HN.out; omega
    obtain ⟨y, hy⟩ : ∃ y : UInt8, en[n]'hne = y := ⟨_, rfl⟩
    have hxl : s.data.toList[n]? = some x := by rw [← hx]; exact Lib.data_getElem? s n hlt
    have hyl : en.data.toList[n]? = some y := by rw [← hy]; exact Lib.data_getElem? en n hne
    have hx128 := HS.out n x hxl
    have hy128 := HEB.out n y hyl
    have hxy : ((x.toNat : Int) != (y.toNat : Int)) = true := bne_iff_ne.2 (by omega)
    have hnz : (n : Int) < (s.size : Int) := by omega
    have hnz2 : (n : Int) < (en.size : Int) := by omega
    have h0n : (0 : Int) ≤ (n : Int) := by omega
    clear hxl hyl
    have hn1 : IntKind.i64.wrap ((n : Int) + 1) = (n : Int) + 1 := by rw [IntKind.wrap_i64]; omega
    have hle : (n : Int) + 1 ≤ (s.size : Int) := by omega
    have h0n1 : (0 : Int) ≤ (n : Int) + 1 := by omega
    have hib : Lib.indexByte (s.extract (n + 1) s.size).data.toList y = -1 := by
     refine rn_none fun b hb => ?_
     have h2 := hb
     rw [ByteArray.data_extract, Array.toList_extract] at h2
     have h3 : b ∈ s.data.toList := List.mem_of_mem_drop (List.mem_of_mem_take (by simpa [List.extract_eq_take_drop] using h2))
     obtain ⟨j, hj, hje⟩ := List.mem_iff_getElem.1 h3
     have := HS.out j b (by rw [List.getElem?_eq_getElem hj, hje])
     intro e
     subst e
     omega
    go_wp2_with fail
    have mixed := L.mixed
    apply wp_scope_straight
    go_wp2_with fail
    go_big_region_o
    have hback : ((y.toNat : Int)).toNat.toUInt8 = y := by simp
    go_wp2_with fail
    go_region_with (go_at_fn (ρ.f 137); refine (Any.strings_IndexByte { L with } (s.extract (n + 1) s.size) (y.toNat : Int) _).mono ?_; rintro e w' ⟨rfl, hw⟩; rw [hback, hib]; subst hw)
    all_goals
     go_wp2
     simp only [Exit.inBlock, Exit.then, Exit.noGoto_ret]
     go_ret
     exact ⟨rfl, ⟨rfl, rfl, rfl, Nat.le_refl _, fun _ _ => rfl⟩⟩
   ·have hlz : decide ((n : Int) < (s.size : Int)) = false := decide_eq_false (by omega)
    go_wp2
    rw [Exit.noGoto_ret]
    go_ret
    exact ⟨rfl, Below.refl _ _⟩
theorem rn_rune (L : Lays.n152 Try.prog ρ) (s : ByteArray) (r : Int) (w : World) (hr : 128 ≤ r) (hsz : s.size < 4294967281) (hs : ∀ (j : Nat) b, s.data.toList[j]? = some b → b.toNat < 128) :
  Calls Try.prog (ρ.f 152) #[.string s, .int .i32 r] w fun e w' => e = .returned (.int .i64 (-1)) ∧ Below w.heap.size w w' := by
 by_cases h5 : r = 65533
 ·subst h5
  exact rn_err L s w hs
 ·obtain ⟨e2, e4, eb⟩ := rn_enc r hr
  exact rn_high L s _ r ((Utf8.encode r).size - 1) w hr h5 hsz hs rfl (by omega) (by omega) eb
/-- an iterator's place, set -/
def rnAt (w : World) (B : Nat) (s : ByteArray) (p : Nat) : World := { w with heap := w.heap.setIfInBounds B (.stringIter s p) }
theorem rnAt_get {w : World} {B : Nat} {o : Obj} (h : w.heap[B]? = some o) (s : ByteArray) (p : Nat) : (rnAt w B s p).heap[B]? = some (.stringIter s p) := by
 have hB := (Array.getElem?_eq_some_iff.1 h).1
 simp [rnAt, Array.getElem?_setIfInBounds, hB]
theorem rnAt_below {w0 w : World} {B : Nat} (h : Below B w0 w) (s : ByteArray) (p : Nat) : Below B w0 (rnAt w B s p) := ⟨h.os, h.tape, h.output, by simpa [rnAt] using h.size, fun i hi => by
 have : B ≠ i := by omega
 simp [rnAt, Array.getElem?_setIfInBounds, this]
 exact h.block i hi⟩
/-- the next rune, whatever it is -/
theorem rn_next (w : World) (B : Nat) (s : ByteArray) (pos : Nat) (ty : TypeId) (hx : w.heap[B]? = some (.stringIter s pos)) (h : pos < s.size) :
  (Instr.next (.pointer (some ⟨B, 0, none⟩)) true ty).run P w = .ok (.tuple #[.bool true, .int .i64 pos, .int .i32 ((Utf8.decode s pos).1 : Nat)]) (rnAt w B s (pos + (Utf8.decode s pos).2)) := by
 simp only [Instr.next, getObj, setObj, Sem.run_bind, Sem.run, hx, Result.andThen, h, if_true]
 simp [goInt, Sem.run, hx, rnAt]
theorem rn_end (w : World) (B : Nat) (s : ByteArray) (pos : Nat) (ty : TypeId) (hx : w.heap[B]? = some (.stringIter s pos)) (h : ¬ pos < s.size) :
  (Instr.next (.pointer (some ⟨B, 0, none⟩)) true ty).run P w = .ok (.tuple #[.bool false]) w := by
 simp [Instr.next, getObj, Sem.run, hx, h]
theorem rn_get (s : ByteArray) (i : Nat) (h : i < s.size) : s.get! i = s[i]'h := by
 simp [ByteArray.get!, getElem!_pos, h]
 rfl
theorem rn_decode (s : ByteArray) (pos : Nat) (h : pos < s.size) (ha : 128 ≤ (s[pos]'h).toNat) :
  128 ≤ (Utf8.decode s pos).1 ∧ 1 ≤ (Utf8.decode s pos).2 ∧ ∀ j, pos ≤ j → j < pos + (Utf8.decode s pos).2 → ∃ hj : j < s.size, 128 ≤ (s[j]'hj).toNat := by
 have e0 : s.get! (pos + 0) = s[pos]'h := rn_get s pos h
 have one : ∀ j, pos ≤ j → j < pos + 1 → ∃ hj : j < s.size, 128 ≤ (s[j]'hj).toNat := fun j h1 h2 => by
  obtain rfl : j = pos := by omega
  exact ⟨h, ha⟩
 have bad : 128 ≤ (Utf8.runeError, 1).1 ∧ 1 ≤ (Utf8.runeError, 1).2 ∧ ∀ j, pos ≤ j → j < pos + (Utf8.runeError, 1).2 → ∃ hj : j < s.size, 128 ≤ (s[j]'hj).toNat := ⟨by decide, Nat.le_refl _, one⟩
 have cont : ∀ k, (decide (pos + k < s.size) && (s.get! (pos + k)).toNat / 64 == 2) = true → ∃ hj : pos + k < s.size, 128 ≤ (s[pos + k]'hj).toNat := fun k hk => by
  rw [Bool.and_eq_true, decide_eq_true_eq, beq_iff_eq] at hk
  refine ⟨hk.1, ?_⟩
  rw [← rn_get s (pos + k) hk.1]
  omega
 simp only [Utf8.decode, e0]
 rw [if_neg (by omega)]
 split
 ·rename_i hc
  rw [Bool.and_eq_true] at hc
  split
  ·rename_i h80
   refine ⟨h80, (show 1 ≤ 2 by decide), fun j h1 h2 => ?_⟩
   rcases Nat.lt_or_ge j (pos + 1) with h3 | h3
   ·exact one j h1 h3
   ·obtain rfl : j = pos + 1 := by simp only at h2; omega
    exact cont 1 hc.2
  ·exact bad
 ·split
  ·rename_i hc
   rw [Bool.and_eq_true, Bool.and_eq_true] at hc
   split
   ·rename_i h80
    rw [Bool.and_eq_true, decide_eq_true_eq] at h80
    refine ⟨by have := h80.1; simp only; omega, (show 1 ≤ 3 by decide), fun j h1 h2 => ?_⟩
    rcases Nat.lt_or_ge j (pos + 1) with h3 | h3
    ·exact one j h1 h3
    ·rcases Nat.lt_or_ge j (pos + 2) with h4 | h4
     ·obtain rfl : j = pos + 1 := by omega
      exact cont 1 hc.1.2
     ·obtain rfl : j = pos + 2 := by simp only at h2; omega
      exact cont 2 hc.2
   ·exact bad
  ·split
   ·rename_i hc
    rw [Bool.and_eq_true, Bool.and_eq_true, Bool.and_eq_true] at hc
    split
    ·rename_i h80
     rw [Bool.and_eq_true, decide_eq_true_eq] at h80
     refine ⟨by have := h80.1; simp only; omega, (show 1 ≤ 4 by decide), fun j h1 h2 => ?_⟩
     rcases Nat.lt_or_ge j (pos + 1) with h3 | h3
     ·exact one j h1 h3
     ·rcases Nat.lt_or_ge j (pos + 2) with h4 | h4
      ·obtain rfl : j = pos + 1 := by omega
       exact cont 1 hc.1.1.2
      ·rcases Nat.lt_or_ge j (pos + 3) with h5 | h5
       ·obtain rfl : j = pos + 2 := by omega
        exact cont 2 hc.1.2
       ·obtain rfl : j = pos + 3 := by simp only at h2; omega
        exact cont 3 hc.2
    ·exact bad
   ·exact bad
set_option maxHeartbeats 8000000 in
set_option maxRecDepth 1000000 in
theorem rn_short (L : Lays.n153 Try.prog ρ) (s chars : ByteArray) (w : World) (h2 : 2 ≤ chars.size) (hcs : chars.size < 4294967281) (h8 : s.size ≤ 8) (hac : ∀ (j : Nat) b, chars.data.toList[j]? = some b → b.toNat < 128) :
  Calls Try.prog (ρ.f 153) #[.string s, .string chars] w fun e w' => e = .returned (.int .i64 (Lib.indexAny s.data.toList chars.data.toList)) ∧ Below w.heap.size w w' := by
 have hemp : chars.toList.isEmpty = false := by
  rw [Lib.toList_data]
  cases h : chars.data.toList with
  | nil => have := Lib.size_eq chars; rw [h, List.length_nil] at this; omega
  | cons _ _ => rfl
 have hn1 : ((chars.size : Int) == 1) = false := beq_eq_false_iff_ne.2 (by omega)
 have h8z : decide ((8 : Int) < (s.size : Int)) = false := decide_eq_false (by omega)
 have HAC : Aside (∀ (j : Nat) b, chars.data.toList[j]? = some b → b.toNat < 128) := hac
 have HZ : Aside (chars.size < 4294967281) := hcs
 clear hac hcs
 have t3 := L.t3; have a3 := L.a3; have z3 := L.z3; have v3 := L.v3
 have t4 := L.t4; have a4 := L.a4; have z4 := L.z4; have v4 := L.v4
 have t5 := L.t5; have a5 := L.a5; have z5 := L.z5; have v5 := L.v5
 have t9 := L.t9; have a9 := L.a9; have z9 := L.z9; have v9 := L.v9
 have t21 := L.t21; have a21 := L.a21; have z21 := L.z21; have v21 := L.v21
 have e152 : ∀ args w, (callFunc (ρ.f 152) args).run Try.prog w = .ok (.enter (ρ.f 152) args) w := enters_of L.f152 (by kernel_rfl) rfl
 have e226 : ∀ args w, (callFunc (ρ.f 226) args).run Try.prog w = .ok (.enter (ρ.f 226) args) w := enters_of L.f226 (by kernel_rfl) rfl
 go_enter L.f153, Body.n153_ntmps ρ
 go_wp2_with (go_at_fn (ρ.f 226); refine (Any.strings_shouldUseASCIISet { L with } _ _).mono ?_; rintro e w' ⟨rfl, hw⟩; rw [hw, h8z])
 go_loopg [9, 10] s.size (fun g _ _ wx => ∃ i : Nat, i ≤ s.size ∧ s.size - i ≤ g ∧ Aside (wx.heap[w.heap.size]? = some (.stringIter s i)) ∧ Aside (Below w.heap.size w wx) ∧ Aside (Lib.NoAny s.data.toList chars.data.toList i))
 case atStart => exact ⟨0, by omega, by omega, World.iter_heap w s 0, (Below.refl _ _).alloc (Nat.le_refl _) _, Lib.NoAny.zero _ _⟩
 case round =>
  obtain ⟨i, hi, hig, HX, HB, HNo⟩ := hrel
  by_cases hlt : i < s.size
  ·have hnx := fun ty => rn_next (P := Try.prog) wr w.heap.size s i ty HX.out hlt
   obtain ⟨c, hc⟩ : ∃ c : Nat, (Utf8.decode s i).1 = c := ⟨_, rfl⟩
   obtain ⟨k, hk⟩ : ∃ k : Nat, (Utf8.decode s i).2 = k := ⟨_, rfl⟩
   obtain ⟨x, hx⟩ : ∃ x : UInt8, s[i]'hlt = x := ⟨_, rfl⟩
   have hxl : s.data.toList[i]? = some x := by rw [← hx]; exact Lib.data_getElem? s i hlt
   have Hx : Aside (s.data.toList[i]? = some x) := hxl
   have HX2 : Aside ((rnAt wr w.heap.size s (i + k)).heap[w.heap.size]? = some (.stringIter s (i + k))) := rnAt_get HX.out s (i + k)
   have HB2 : Aside (Below w.heap.size w (rnAt wr w.heap.size s (i + k))) := rnAt_below HB.out s (i + k)
   have HG : Aside (i < s.size ∧ s.size - i ≤ gk) := ⟨hlt, hig⟩
   by_cases ha : x.toNat < 128
   ·have hd := decode_ascii s i hlt (by rw [hx]; exact ha)
    rw [hx] at hd
    have hcx : c = x.toNat := by rw [← hc, hd]
    have hk1 : k = 1 := by rw [← hk, hd]
    subst hcx hk1
    rw [hc, hk] at hnx
    generalize rnAt wr w.heap.size s (i + 1) = w2 at hnx HX2 HB2
    have hcon := Lib.contains_iff_indexByte chars.data.toList x
    have hback : ((x.toNat : Int)).toNat.toUInt8 = x := by simp
    clear hxl hx hd hc hk HX HB
    cases hin : chars.data.toList.contains x
    ·rw [hin] at hcon
     have hlt2 : ¬ ((0 : Int) ≤ Lib.indexByte chars.data.toList x) := of_decide_eq_false hcon.symm
     clear hcon
     go_wp2_with (go_at_fn (ρ.f 152); refine (Any.strings_IndexRune_ascii { L with } _ _ _ (by omega) (by omega)).mono ?_; rintro e w' ⟨rfl, hw⟩; rw [hw, hback])
     go_roundg (s.size - (i + 1))
     case measure => have := HG.out; omega
     case rel => exact ⟨i + 1, by have := HG.out; omega, Nat.le_refl _, HX2.out, HB2.out, HNo.out.succ Hx.out hin⟩
    ·rw [hin] at hcon
     have hge : (0 : Int) ≤ Lib.indexByte chars.data.toList x := of_decide_eq_true hcon.symm
     clear hcon
     go_wp2_with (go_at_fn (ρ.f 152); refine (Any.strings_IndexRune_ascii { L with } _ _ _ (by omega) (by omega)).mono ?_; rintro e w' ⟨rfl, hw⟩; rw [hw, hback])
     go_ret
     exact ⟨by rw [Lib.indexAny_hit HNo.out Hx.out hin]; rfl, HB2.out⟩
   ·obtain ⟨d1, d2, d3⟩ := rn_decode s i hlt (by rw [hx]; omega)
    rw [hc] at d1
    rw [hk] at d2 d3
    rw [hc, hk] at hnx
    have hik : i + k ≤ s.size := by
     obtain ⟨h1, _⟩ := d3 (i + k - 1) (by omega) (by omega)
     omega
    have HN2 : Aside (Lib.NoAny s.data.toList chars.data.toList (i + k)) := fun j b hj hb => by
     rcases Nat.lt_or_ge j i with h1 | h1
     ·exact HNo.out j b h1 hb
     ·obtain ⟨h3, h4⟩ := d3 j h1 hj
      have h6 := Lib.data_getElem? s j h3
      rw [hb] at h6
      have h7 := Option.some.inj h6
      rw [← h7] at h4
      cases h8 : chars.data.toList.contains b with
      | false => rfl
      | true =>
       obtain ⟨q, hq, hqe⟩ := List.mem_iff_getElem.1 (List.contains_iff_mem.1 h8)
       have := HAC.out q b (by rw [List.getElem?_eq_getElem hq, hqe])
       omega
    have HD : Aside (1 ≤ k ∧ i + k ≤ s.size) := ⟨d2, hik⟩
    have hcz : (128 : Int) ≤ (c : Int) := by omega
    have HR : Aside (∀ W, Calls Try.prog (ρ.f 152) #[.string chars, .int .i32 (c : Int)] W fun e w' => e = .returned (.int .i64 (-1)) ∧ Below W.heap.size W w') := fun W => rn_rune { L with } chars c W hcz HZ.out HAC.out
    generalize rnAt wr w.heap.size s (i + k) = w2 at hnx HX2 HB2
    clear hxl hx hc hk HX HB d1 d2 d3 hik hcz
    go_wp2_with (go_at_fn (ρ.f 152); refine (HR.out _).mono ?_; rintro e w' ⟨rfl, hb⟩; have HB3 : Aside (Below w2.heap.size w2 w') := hb; clear hb)
    go_roundg (s.size - (i + k))
    case measure => have := HG.out; have := HD.out; omega
    case rel => exact ⟨i + k, by have := HD.out; omega, Nat.le_refl _, (HB3.out.block _ (Array.getElem?_eq_some_iff.1 HX2.out).1).trans HX2.out, HB2.out.trans (HB3.out.mono HB2.out.size), HN2.out⟩
  ·obtain rfl : i = s.size := by omega
   have hnx := fun ty => rn_end (P := Try.prog) wr w.heap.size s s.size ty HX.out hlt
   go_wp2
   go_ret
   exact ⟨by rw [Lib.indexAny_none (by rw [← Lib.size_eq]; exact HNo.out)]; rfl, HB.out⟩
end
/-- the first of some ASCII bytes, two or more, in any text -/
def strings_IndexAny.f (a0 a1 : ByteArray) : Option Int := if a0.size < 4294967281 ∧ a1.size < 4294967281 ∧ 2 ≤ a1.size ∧ a1.data.toList.all (fun b => decide (b.toNat < 128)) = true then some (Lib.indexAny a0.data.toList a1.data.toList) else none
theorem strings_IndexAny.calls (a0 a1 : ByteArray) (r : Int) (w : World) (h : strings_IndexAny.f a0 a1 = some r) :
  Calls Try.prog 48 #[.string a0, .string a1] w fun e w' => e = .returned (.int .i64 r) ∧ Below w.heap.size w w' := by
 unfold strings_IndexAny.f at h
 by_cases hc : a0.size < 4294967281 ∧ a1.size < 4294967281 ∧ 2 ≤ a1.size ∧ a1.data.toList.all (fun b => decide (b.toNat < 128)) = true
 ·rw [if_pos hc] at h
  obtain rfl := Option.some.inj h
  obtain ⟨h0, h1, h2, h3⟩ := hc
  have hac : ∀ (j : Nat) b, a1.data.toList[j]? = some b → b.toNat < 128 := fun j b hb => of_decide_eq_true (List.all_eq_true.1 h3 b (List.mem_of_getElem? hb))
  by_cases h8 : a0.size ≤ 8
  ·exact rn_short (ρ := Try.lays153_ren) Try.lays153 a0 a1 w h2 h1 h8 hac
  ·have h116 : (Try.prog.info? (Try.lays153_ren.t 116)).map (fun i => (i.zero, i.size)) = some (some (.agg (Array.replicate 256 (.bool false))), 256) := by kernel_rfl
   refine (Go.Proofs.Any.strings_IndexAny_long (ρ := Try.lays153_ren) Try.lays153 (Go.zero_of_info h116).1 (Go.zero_of_info h116).2 a0 a1 w h2 (by omega) h0 h1 hac).mono fun e w' ⟨g1, g2⟩ => ⟨g1, ?_⟩
   rw [g2]
   exact ((Below.refl _ _).alloc (Nat.le_refl _) _).alloc (by simp) _
 ·rw [if_neg hc] at h
  cases h

/-! ### strings_IndexByte: function 60 -/
def strings_IndexByte.f (a0 : ByteArray) (a1 : Int) : Option (Int) := some (Lib.indexByte a0.data.toList a1.toNat.toUInt8)
set_option maxRecDepth 100000 in
theorem strings_IndexByte.calls0 (s : ByteArray) (c : Int) (w : World) :
  Calls Try.prog 67 #[.string s, .int .u8 c] w fun e w' => e = .returned (.int .i64 (Lib.indexByte s.data.toList c.toNat.toUInt8)) ∧ w' = w := by
 go_enter Try.func67, Try.ntmps67
 go_wp2
 rw [run_callFunc_extern Try.func70 (by kernel_rfl) (by kernel_rfl) (by kernel_rfl) (e := Extern.BytealgIndexByte.indexByte) (by kernel_rfl), Lib.run_indexByteString]
 simp only [Result.andThen]
 rw [Oper.upon_value]
 go_wp2
 go_ret
 exact ⟨rfl, rfl⟩
set_option maxRecDepth 100000 in
theorem strings_IndexByte.calls (a0 : ByteArray) (a1 : Int) (r : Int) (w : World) (h : strings_IndexByte.f a0 a1 = some r) :
  Calls Try.prog 60 #[.string a0, .int .u8 a1] w fun e w' => e = .returned (.int .i64 r) ∧ Drawn0 w w' := by
 obtain rfl := Option.some.inj h
 go_enter Try.func60, Try.ntmps60
 go_wp2_with (go_at_call 67; refine (strings_IndexByte.calls0 _ _ _).mono ?_; rintro e w' ⟨rfl, rfl⟩)
 go_ret
 exact ⟨rfl, Drawn0.refl _⟩

end Go.Proofs.Ytielpefbgdilaaa.X
