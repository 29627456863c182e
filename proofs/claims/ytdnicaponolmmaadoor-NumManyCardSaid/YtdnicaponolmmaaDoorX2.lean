-- Laid by xprint.py, a program of this session's, out of the translation.
import Derived.Test.YtdnicaponolmmaaDoorX0
import Derived.Test.YtdnicaponolmmaaDoorX1
namespace Go.Proofs.YtdnicaponolmmaaDoor.X
open Go.RowKit Go.Proofs.YtdnicaponolmmaaDoorW.PrintWords Go.Proofs.YtdnicaponolmmaaDoorW.PrintLast Go.Proofs.YtdnicaponolmmaaDoorW.PrintMore
attribute [local go_sem] max2_int min2_int max_two min_two max_three min_three max_four min_four x_isSome x_str_gtr x_str_leq x_str_geq   -- for this text's walks alone
set_option linter.unusedVariables false
set_option linter.unusedSimpArgs false

/-! ### num_Parse: function 19 -/
/-- the number that a text is, and whether it is one -/
def parseN (l : List UInt8) : Int × Bool := match Lib.parseIntB 64 l with
  | .ok v => if Lib.itoa v = l then (v, true) else (0, false)
  | _ => (0, false)
theorem parse_below {w w1 : World} {e : TypeId} (h : w1 = w ∨ ∃ t, w1 = Lib.bytesWorld w e t) : Below w.heap.size w w1 := by
  rcases h with rfl | ⟨t, rfl⟩
  · exact Below.refl _ _
  · exact bytes_below (Below.refl _ _) (Nat.le_refl _) _ _
theorem parse_range {v : Int} {l : List UInt8} (h : Lib.parseIntB 64 l = .ok v) : -9223372036854775808 ≤ v ∧ v ≤ 9223372036854775807 := by
  have := Lib.parseIntB_bounds h
  have e : ((2 ^ (64 - 1) : Nat) : Int) = 9223372036854775808 := by decide
  rw [e] at this
  omega
theorem parse_text {v : Int} {l : List UInt8} (h : Lib.parseIntB 64 l = .ok v) : num_Text.f v = some ⟨(Lib.itoa v).toArray⟩ := by
  unfold num_Text.f
  rw [if_pos (parse_range h)]
def num_Parse.f (a0 : ByteArray) : Option (Int × Bool) := if a0.size ≤ 281474976710656 then some (parseN a0.data.toList) else none
set_option maxRecDepth 100000 in
set_option maxHeartbeats 4000000 in
theorem num_Parse.calls (a0 : ByteArray) (r1 : Int) (r2 : Bool) (w : World) (h : num_Parse.f a0 = some (r1, r2)) (hLd : Laid w) :
    Calls Tryd.prog 19 #[.string a0] w fun e w' => e = .returned (.tuple #[.int .i64 r1, .bool r2]) ∧ Below w.heap.size w w' := by
  unfold num_Parse.f at h
  by_cases hr : a0.size ≤ 281474976710656
  · rw [if_pos hr] at h
    have h1 := Option.some.inj h
    have HL := Aside0.mk hLd
    have HR := Aside0.mk hr
    clear hLd hr h
    unfold parseN at h1
    cases hp : Lib.parseIntB 64 a0.data.toList with
    | ok v =>
      rw [hp] at h1
      have HP := Aside0.mk hp
      have HT := Aside0.mk (parse_text hp)
      have hsz : a0.size ≤ 9223372036854775806 := by have := HR.out; omega
      have HS := Aside0.mk hsz
      clear hp hsz
      obtain ⟨t, ht⟩ : ∃ t : ByteArray, t = ⟨(Lib.itoa v).toArray⟩ := ⟨_, rfl⟩
      have HT2 : Aside0 (num_Text.f v = some t) := Aside0.mk (by rw [ht]; exact HT.out)
      by_cases he : Lib.itoa v = a0.data.toList
      · dsimp only at h1
        rw [if_pos he] at h1
        injection h1 with e1 e2
        subst e1 e2
        have hs : t = a0 := by rw [ht, he]
        subst hs
        clear he ht HT
        go_enter Tryd.func19, Tryd.ntmps19
        go_wp2_with (first | (go_at_call 28; refine (Tryd.strconv_ParseInt_10_at64_ok _ HS.out _ HP.out _).mono ?_; rintro e w1 ⟨rfl, hw1⟩; have HB1 := Aside0.mk (parse_below hw1); clear hw1) | (go_at_call 21; refine (num_Text.calls _ _ _ HT2.out (laid_below HL.out HB1.out)).mono ?_; rintro e w2 ⟨rfl, hb2⟩; have HB2 := Aside0.mk (below_step HB1.out hb2); clear hb2))
        go_ret2
        exact ⟨rfl, HB2.out⟩
      · dsimp only at h1
        rw [if_neg he] at h1
        injection h1 with e1 e2
        subst e1 e2
        have hs : t.toList ≠ a0.toList := fun h => he (by rw [x_toList, x_toList, ht] at h; exact h)
        have hs1 : (t.toList == a0.toList) = false := beq_eq_false_iff_ne.2 hs
        have hs2 : (t.toList != a0.toList) = true := bne_iff_ne.2 hs
        clear he ht HT
        go_enter Tryd.func19, Tryd.ntmps19
        go_wp2_with (first | (go_at_call 28; refine (Tryd.strconv_ParseInt_10_at64_ok _ HS.out _ HP.out _).mono ?_; rintro e w1 ⟨rfl, hw1⟩; have HB1 := Aside0.mk (parse_below hw1); clear hw1) | (go_at_call 21; refine (num_Text.calls _ _ _ HT2.out (laid_below HL.out HB1.out)).mono ?_; rintro e w2 ⟨rfl, hb2⟩; have HB2 := Aside0.mk (below_step HB1.out hb2); clear hb2))
        go_ret2
        exact ⟨rfl, HB2.out⟩
    | «syntax» =>
      rw [hp] at h1
      injection h1 with e1 e2
      subst e1 e2
      have HP := Aside0.mk hp
      clear hp
      obtain ⟨_, ⟨ev, hv, hev⟩, _⟩ := HL.out
      have HV := Aside0.mk hv
      have HE := Aside0.mk hev
      clear hv hev
      go_enter Tryd.func19, Tryd.ntmps19
      go_wp2_with (go_at_call 28; refine (Tryd.strconv_ParseInt_10_at64_syntax _ HR.out HP.out ev _ HV.out HE.out).mono ?_; rintro e w1 ⟨N, rfl, _, _, hb1⟩; have HB1 := Aside0.mk hb1; clear hb1)
      go_ret2
      exact ⟨rfl, HB1.out⟩
    | range =>
      rw [hp] at h1
      injection h1 with e1 e2
      subst e1 e2
      have HP := Aside0.mk hp
      clear hp
      obtain ⟨_, _, ⟨ev, hv, hev⟩⟩ := HL.out
      have HV := Aside0.mk hv
      have HE := Aside0.mk hev
      clear hv hev
      go_enter Tryd.func19, Tryd.ntmps19
      go_wp2_with (go_at_call 28; refine (Tryd.strconv_ParseInt_10_at64_range _ HR.out HP.out ev _ HV.out HE.out).mono ?_; rintro e w1 ⟨N, rfl, _, _, hb1⟩; have HB1 := Aside0.mk hb1; clear hb1)
      go_ret2
      exact ⟨rfl, HB1.out⟩
  · rw [if_neg hr] at h
    cases h

/-! ### archivistlaw02_examples: function 9 -/
def archivistlaw02_examples.f (k : Nat)  : Option (Bool) := (num_Add.f k (([1, 2, (-4)] : List Int))).bind fun bt119 => ((num_Add.f k (([9223372036854775807, 1] : List Int))).bind fun bt124 => ((num_Add.f k (([9223372036854775807, 1, (-1)] : List Int))).bind fun bt129 => ((num_Sub.f (-9223372036854775808) (-1)).bind fun bt131 => ((num_Sub.f (-9223372036854775808) 1).bind fun bt133 => ((num_Mul.f k (([(-4611686018427387904), 2] : List Int))).bind fun bt138 => ((num_Mul.f k (([(-9223372036854775808), (-1)] : List Int))).bind fun bt143 => ((num_Parse.f (⟨#[45, 49, 50]⟩ : ByteArray)).bind fun bt145 => ((num_Parse.f (⟨#[48, 49, 50]⟩ : ByteArray)).bind fun bt147 => ((num_Add.f k ([] : List Int)).bind fun bt149 => ((num_Mul.f k ([] : List Int)).bind fun bt151 => (if bt119.1 = (-1) then (if bt119.2 = true then (if bt124.2 = true then (none) else (if bt129.2 = true then (none) else (if bt131.1 = (-9223372036854775807) then (if bt131.2 = true then (if bt133.2 = true then (none) else (if bt138.1 = (-9223372036854775808) then (if bt138.2 = true then (if bt143.2 = true then (none) else (if bt145.1 = (-12) then (if bt145.2 = true then (if bt147.2 = true then (none) else (if bt149.1 = 0 then (if bt149.2 = true then (if bt151.1 = 1 then (if bt151.2 = true then ((num_Text.f (-7)).bind fun t153 => (if t153.toList = ([45, 55] : List UInt8) then ((num_Least.f k 3 (([1, 2] : List Int))).bind fun t157 => (some (t157 == 1))) else (none))) else (none)) else (none)) else (none)) else (none))) else (none)) else (none))) else (none)) else (none))) else (none)) else (none)))) else (none)) else (none))))))))))))
theorem archivistlaw02_examples.mono : ∀ k, LeO (archivistlaw02_examples.f k ) (archivistlaw02_examples.f (k + 1) ) := by
  intro  k
  unfold archivistlaw02_examples.f
  repeat' first
      | (with_reducible exact num_Add.mono _ _)
      | (with_reducible exact num_Least.mono _ _ _)
      | (with_reducible exact num_Mul.mono _ _)
      | (with_reducible exact LeO.refl _)
      | (with_reducible exact LeO.none _)
      | (with_reducible refine LeO.ite ?_ ?_)
      | (with_reducible refine LeO.bind ?_ (fun _ => ?_))
      | exact num_Add.mono _ _
      | exact num_Least.mono _ _ _
      | exact num_Mul.mono _ _
      | exact LeO.none _
      | refine LeO.ite ?_ ?_
      | refine LeO.bind ?_ (fun _ => ?_)
set_option maxHeartbeats 8000000 in
set_option maxRecDepth 100000 in
theorem archivistlaw02_examples.calls (k : Nat)  (r : Bool) (w : World) (h : archivistlaw02_examples.f k  = some r) (hLd : Laid w) :
    Calls Tryd.prog 9 #[] w fun e w' => e = .returned (.bool r) ∧ Below w.heap.size w w' := by
  have HLd := Aside0.mk hLd
  clear hLd
  have HB := Aside0.mk (Below.refl w.heap.size w)
  have H : ((num_Add.f k (([1, 2, (-4)] : List Int))).bind fun bt119 => ((num_Add.f k (([9223372036854775807, 1] : List Int))).bind fun bt124 => ((num_Add.f k (([9223372036854775807, 1, (-1)] : List Int))).bind fun bt129 => ((num_Sub.f (-9223372036854775808) (-1)).bind fun bt131 => ((num_Sub.f (-9223372036854775808) 1).bind fun bt133 => ((num_Mul.f k (([(-4611686018427387904), 2] : List Int))).bind fun bt138 => ((num_Mul.f k (([(-9223372036854775808), (-1)] : List Int))).bind fun bt143 => ((num_Parse.f (⟨#[45, 49, 50]⟩ : ByteArray)).bind fun bt145 => ((num_Parse.f (⟨#[48, 49, 50]⟩ : ByteArray)).bind fun bt147 => ((num_Add.f k ([] : List Int)).bind fun bt149 => ((num_Mul.f k ([] : List Int)).bind fun bt151 => (if bt119.1 = (-1) then (if bt119.2 = true then (if bt124.2 = true then (none) else (if bt129.2 = true then (none) else (if bt131.1 = (-9223372036854775807) then (if bt131.2 = true then (if bt133.2 = true then (none) else (if bt138.1 = (-9223372036854775808) then (if bt138.2 = true then (if bt143.2 = true then (none) else (if bt145.1 = (-12) then (if bt145.2 = true then (if bt147.2 = true then (none) else (if bt149.1 = 0 then (if bt149.2 = true then (if bt151.1 = 1 then (if bt151.2 = true then ((num_Text.f (-7)).bind fun t153 => (if t153.toList = ([45, 55] : List UInt8) then ((num_Least.f k 3 (([1, 2] : List Int))).bind fun t157 => (some (t157 == 1))) else (none))) else (none)) else (none)) else (none)) else (none))) else (none)) else (none))) else (none)) else (none))) else (none)) else (none)))) else (none)) else (none))))))))))))) = some r := h
  clear h
  obtain ⟨y116, hy116⟩ : ∃ y_ : List Int, y_ = (([1, 2, (-4)] : List Int)) := ⟨_, rfl⟩
  replace H : ((num_Add.f k y116).bind fun bt119 => ((num_Add.f k (([9223372036854775807, 1] : List Int))).bind fun bt124 => ((num_Add.f k (([9223372036854775807, 1, (-1)] : List Int))).bind fun bt129 => ((num_Sub.f (-9223372036854775808) (-1)).bind fun bt131 => ((num_Sub.f (-9223372036854775808) 1).bind fun bt133 => ((num_Mul.f k (([(-4611686018427387904), 2] : List Int))).bind fun bt138 => ((num_Mul.f k (([(-9223372036854775808), (-1)] : List Int))).bind fun bt143 => ((num_Parse.f (⟨#[45, 49, 50]⟩ : ByteArray)).bind fun bt145 => ((num_Parse.f (⟨#[48, 49, 50]⟩ : ByteArray)).bind fun bt147 => ((num_Add.f k ([] : List Int)).bind fun bt149 => ((num_Mul.f k ([] : List Int)).bind fun bt151 => (if bt119.1 = (-1) then (if bt119.2 = true then (if bt124.2 = true then (none) else (if bt129.2 = true then (none) else (if bt131.1 = (-9223372036854775807) then (if bt131.2 = true then (if bt133.2 = true then (none) else (if bt138.1 = (-9223372036854775808) then (if bt138.2 = true then (if bt143.2 = true then (none) else (if bt145.1 = (-12) then (if bt145.2 = true then (if bt147.2 = true then (none) else (if bt149.1 = 0 then (if bt149.2 = true then (if bt151.1 = 1 then (if bt151.2 = true then ((num_Text.f (-7)).bind fun t153 => (if t153.toList = ([45, 55] : List UInt8) then ((num_Least.f k 3 (([1, 2] : List Int))).bind fun t157 => (some (t157 == 1))) else (none))) else (none)) else (none)) else (none)) else (none))) else (none)) else (none))) else (none)) else (none))) else (none)) else (none)))) else (none)) else (none))))))))))))) = some r := by first | (rw [hy116]; with_reducible exact H) | (have H2_ := (Option.bind_some _ _).symm.trans H; rw [hy116]; with_reducible exact H2_) | (have H2_ := (Option.bind_some _ _).symm.trans H; with_reducible exact H2_) | with_reducible exact H | (rw [hy116]; exact H) | exact H
  have Ny116 := Aside0.mk hy116
  clear hy116
  replace H := Option.bind_eq_some_iff.mp H
  obtain ⟨⟨t119, t120⟩, A10, H⟩ := H
  replace H : ((num_Add.f k (([9223372036854775807, 1] : List Int))).bind fun bt124 => ((num_Add.f k (([9223372036854775807, 1, (-1)] : List Int))).bind fun bt129 => ((num_Sub.f (-9223372036854775808) (-1)).bind fun bt131 => ((num_Sub.f (-9223372036854775808) 1).bind fun bt133 => ((num_Mul.f k (([(-4611686018427387904), 2] : List Int))).bind fun bt138 => ((num_Mul.f k (([(-9223372036854775808), (-1)] : List Int))).bind fun bt143 => ((num_Parse.f (⟨#[45, 49, 50]⟩ : ByteArray)).bind fun bt145 => ((num_Parse.f (⟨#[48, 49, 50]⟩ : ByteArray)).bind fun bt147 => ((num_Add.f k ([] : List Int)).bind fun bt149 => ((num_Mul.f k ([] : List Int)).bind fun bt151 => (if t119 = (-1) then (if t120 = true then (if bt124.2 = true then (none) else (if bt129.2 = true then (none) else (if bt131.1 = (-9223372036854775807) then (if bt131.2 = true then (if bt133.2 = true then (none) else (if bt138.1 = (-9223372036854775808) then (if bt138.2 = true then (if bt143.2 = true then (none) else (if bt145.1 = (-12) then (if bt145.2 = true then (if bt147.2 = true then (none) else (if bt149.1 = 0 then (if bt149.2 = true then (if bt151.1 = 1 then (if bt151.2 = true then ((num_Text.f (-7)).bind fun t153 => (if t153.toList = ([45, 55] : List UInt8) then ((num_Least.f k 3 (([1, 2] : List Int))).bind fun t157 => (some (t157 == 1))) else (none))) else (none)) else (none)) else (none)) else (none))) else (none)) else (none))) else (none)) else (none))) else (none)) else (none)))) else (none)) else (none)))))))))))) = some r := H
  have A1 := Aside0.mk A10
  clear A10
  obtain ⟨y121, hy121⟩ : ∃ y_ : List Int, y_ = (([9223372036854775807, 1] : List Int)) := ⟨_, rfl⟩
  replace H : ((num_Add.f k y121).bind fun bt124 => ((num_Add.f k (([9223372036854775807, 1, (-1)] : List Int))).bind fun bt129 => ((num_Sub.f (-9223372036854775808) (-1)).bind fun bt131 => ((num_Sub.f (-9223372036854775808) 1).bind fun bt133 => ((num_Mul.f k (([(-4611686018427387904), 2] : List Int))).bind fun bt138 => ((num_Mul.f k (([(-9223372036854775808), (-1)] : List Int))).bind fun bt143 => ((num_Parse.f (⟨#[45, 49, 50]⟩ : ByteArray)).bind fun bt145 => ((num_Parse.f (⟨#[48, 49, 50]⟩ : ByteArray)).bind fun bt147 => ((num_Add.f k ([] : List Int)).bind fun bt149 => ((num_Mul.f k ([] : List Int)).bind fun bt151 => (if t119 = (-1) then (if t120 = true then (if bt124.2 = true then (none) else (if bt129.2 = true then (none) else (if bt131.1 = (-9223372036854775807) then (if bt131.2 = true then (if bt133.2 = true then (none) else (if bt138.1 = (-9223372036854775808) then (if bt138.2 = true then (if bt143.2 = true then (none) else (if bt145.1 = (-12) then (if bt145.2 = true then (if bt147.2 = true then (none) else (if bt149.1 = 0 then (if bt149.2 = true then (if bt151.1 = 1 then (if bt151.2 = true then ((num_Text.f (-7)).bind fun t153 => (if t153.toList = ([45, 55] : List UInt8) then ((num_Least.f k 3 (([1, 2] : List Int))).bind fun t157 => (some (t157 == 1))) else (none))) else (none)) else (none)) else (none)) else (none))) else (none)) else (none))) else (none)) else (none))) else (none)) else (none)))) else (none)) else (none)))))))))))) = some r := by first | (rw [hy121]; with_reducible exact H) | (have H2_ := (Option.bind_some _ _).symm.trans H; rw [hy121]; with_reducible exact H2_) | (have H2_ := (Option.bind_some _ _).symm.trans H; with_reducible exact H2_) | with_reducible exact H | (rw [hy121]; exact H) | exact H
  have Ny121 := Aside0.mk hy121
  clear hy121
  replace H := Option.bind_eq_some_iff.mp H
  obtain ⟨⟨t124, t125⟩, A20, H⟩ := H
  replace H : ((num_Add.f k (([9223372036854775807, 1, (-1)] : List Int))).bind fun bt129 => ((num_Sub.f (-9223372036854775808) (-1)).bind fun bt131 => ((num_Sub.f (-9223372036854775808) 1).bind fun bt133 => ((num_Mul.f k (([(-4611686018427387904), 2] : List Int))).bind fun bt138 => ((num_Mul.f k (([(-9223372036854775808), (-1)] : List Int))).bind fun bt143 => ((num_Parse.f (⟨#[45, 49, 50]⟩ : ByteArray)).bind fun bt145 => ((num_Parse.f (⟨#[48, 49, 50]⟩ : ByteArray)).bind fun bt147 => ((num_Add.f k ([] : List Int)).bind fun bt149 => ((num_Mul.f k ([] : List Int)).bind fun bt151 => (if t119 = (-1) then (if t120 = true then (if t125 = true then (none) else (if bt129.2 = true then (none) else (if bt131.1 = (-9223372036854775807) then (if bt131.2 = true then (if bt133.2 = true then (none) else (if bt138.1 = (-9223372036854775808) then (if bt138.2 = true then (if bt143.2 = true then (none) else (if bt145.1 = (-12) then (if bt145.2 = true then (if bt147.2 = true then (none) else (if bt149.1 = 0 then (if bt149.2 = true then (if bt151.1 = 1 then (if bt151.2 = true then ((num_Text.f (-7)).bind fun t153 => (if t153.toList = ([45, 55] : List UInt8) then ((num_Least.f k 3 (([1, 2] : List Int))).bind fun t157 => (some (t157 == 1))) else (none))) else (none)) else (none)) else (none)) else (none))) else (none)) else (none))) else (none)) else (none))) else (none)) else (none)))) else (none)) else (none))))))))))) = some r := H
  have A2 := Aside0.mk A20
  clear A20
  obtain ⟨y126, hy126⟩ : ∃ y_ : List Int, y_ = (([9223372036854775807, 1, (-1)] : List Int)) := ⟨_, rfl⟩
  replace H : ((num_Add.f k y126).bind fun bt129 => ((num_Sub.f (-9223372036854775808) (-1)).bind fun bt131 => ((num_Sub.f (-9223372036854775808) 1).bind fun bt133 => ((num_Mul.f k (([(-4611686018427387904), 2] : List Int))).bind fun bt138 => ((num_Mul.f k (([(-9223372036854775808), (-1)] : List Int))).bind fun bt143 => ((num_Parse.f (⟨#[45, 49, 50]⟩ : ByteArray)).bind fun bt145 => ((num_Parse.f (⟨#[48, 49, 50]⟩ : ByteArray)).bind fun bt147 => ((num_Add.f k ([] : List Int)).bind fun bt149 => ((num_Mul.f k ([] : List Int)).bind fun bt151 => (if t119 = (-1) then (if t120 = true then (if t125 = true then (none) else (if bt129.2 = true then (none) else (if bt131.1 = (-9223372036854775807) then (if bt131.2 = true then (if bt133.2 = true then (none) else (if bt138.1 = (-9223372036854775808) then (if bt138.2 = true then (if bt143.2 = true then (none) else (if bt145.1 = (-12) then (if bt145.2 = true then (if bt147.2 = true then (none) else (if bt149.1 = 0 then (if bt149.2 = true then (if bt151.1 = 1 then (if bt151.2 = true then ((num_Text.f (-7)).bind fun t153 => (if t153.toList = ([45, 55] : List UInt8) then ((num_Least.f k 3 (([1, 2] : List Int))).bind fun t157 => (some (t157 == 1))) else (none))) else (none)) else (none)) else (none)) else (none))) else (none)) else (none))) else (none)) else (none))) else (none)) else (none)))) else (none)) else (none))))))))))) = some r := by first | (rw [hy126]; with_reducible exact H) | (have H2_ := (Option.bind_some _ _).symm.trans H; rw [hy126]; with_reducible exact H2_) | (have H2_ := (Option.bind_some _ _).symm.trans H; with_reducible exact H2_) | with_reducible exact H | (rw [hy126]; exact H) | exact H
  have Ny126 := Aside0.mk hy126
  clear hy126
  replace H := Option.bind_eq_some_iff.mp H
  obtain ⟨⟨t129, t130⟩, A30, H⟩ := H
  replace H : ((num_Sub.f (-9223372036854775808) (-1)).bind fun bt131 => ((num_Sub.f (-9223372036854775808) 1).bind fun bt133 => ((num_Mul.f k (([(-4611686018427387904), 2] : List Int))).bind fun bt138 => ((num_Mul.f k (([(-9223372036854775808), (-1)] : List Int))).bind fun bt143 => ((num_Parse.f (⟨#[45, 49, 50]⟩ : ByteArray)).bind fun bt145 => ((num_Parse.f (⟨#[48, 49, 50]⟩ : ByteArray)).bind fun bt147 => ((num_Add.f k ([] : List Int)).bind fun bt149 => ((num_Mul.f k ([] : List Int)).bind fun bt151 => (if t119 = (-1) then (if t120 = true then (if t125 = true then (none) else (if t130 = true then (none) else (if bt131.1 = (-9223372036854775807) then (if bt131.2 = true then (if bt133.2 = true then (none) else (if bt138.1 = (-9223372036854775808) then (if bt138.2 = true then (if bt143.2 = true then (none) else (if bt145.1 = (-12) then (if bt145.2 = true then (if bt147.2 = true then (none) else (if bt149.1 = 0 then (if bt149.2 = true then (if bt151.1 = 1 then (if bt151.2 = true then ((num_Text.f (-7)).bind fun t153 => (if t153.toList = ([45, 55] : List UInt8) then ((num_Least.f k 3 (([1, 2] : List Int))).bind fun t157 => (some (t157 == 1))) else (none))) else (none)) else (none)) else (none)) else (none))) else (none)) else (none))) else (none)) else (none))) else (none)) else (none)))) else (none)) else (none)))))))))) = some r := H
  have A3 := Aside0.mk A30
  clear A30
  replace H := Option.bind_eq_some_iff.mp H
  obtain ⟨⟨t131, t132⟩, A40, H⟩ := H
  replace H : ((num_Sub.f (-9223372036854775808) 1).bind fun bt133 => ((num_Mul.f k (([(-4611686018427387904), 2] : List Int))).bind fun bt138 => ((num_Mul.f k (([(-9223372036854775808), (-1)] : List Int))).bind fun bt143 => ((num_Parse.f (⟨#[45, 49, 50]⟩ : ByteArray)).bind fun bt145 => ((num_Parse.f (⟨#[48, 49, 50]⟩ : ByteArray)).bind fun bt147 => ((num_Add.f k ([] : List Int)).bind fun bt149 => ((num_Mul.f k ([] : List Int)).bind fun bt151 => (if t119 = (-1) then (if t120 = true then (if t125 = true then (none) else (if t130 = true then (none) else (if t131 = (-9223372036854775807) then (if t132 = true then (if bt133.2 = true then (none) else (if bt138.1 = (-9223372036854775808) then (if bt138.2 = true then (if bt143.2 = true then (none) else (if bt145.1 = (-12) then (if bt145.2 = true then (if bt147.2 = true then (none) else (if bt149.1 = 0 then (if bt149.2 = true then (if bt151.1 = 1 then (if bt151.2 = true then ((num_Text.f (-7)).bind fun t153 => (if t153.toList = ([45, 55] : List UInt8) then ((num_Least.f k 3 (([1, 2] : List Int))).bind fun t157 => (some (t157 == 1))) else (none))) else (none)) else (none)) else (none)) else (none))) else (none)) else (none))) else (none)) else (none))) else (none)) else (none)))) else (none)) else (none))))))))) = some r := H
  have A4 := Aside0.mk A40
  clear A40
  replace H := Option.bind_eq_some_iff.mp H
  obtain ⟨⟨t133, t134⟩, A50, H⟩ := H
  replace H : ((num_Mul.f k (([(-4611686018427387904), 2] : List Int))).bind fun bt138 => ((num_Mul.f k (([(-9223372036854775808), (-1)] : List Int))).bind fun bt143 => ((num_Parse.f (⟨#[45, 49, 50]⟩ : ByteArray)).bind fun bt145 => ((num_Parse.f (⟨#[48, 49, 50]⟩ : ByteArray)).bind fun bt147 => ((num_Add.f k ([] : List Int)).bind fun bt149 => ((num_Mul.f k ([] : List Int)).bind fun bt151 => (if t119 = (-1) then (if t120 = true then (if t125 = true then (none) else (if t130 = true then (none) else (if t131 = (-9223372036854775807) then (if t132 = true then (if t134 = true then (none) else (if bt138.1 = (-9223372036854775808) then (if bt138.2 = true then (if bt143.2 = true then (none) else (if bt145.1 = (-12) then (if bt145.2 = true then (if bt147.2 = true then (none) else (if bt149.1 = 0 then (if bt149.2 = true then (if bt151.1 = 1 then (if bt151.2 = true then ((num_Text.f (-7)).bind fun t153 => (if t153.toList = ([45, 55] : List UInt8) then ((num_Least.f k 3 (([1, 2] : List Int))).bind fun t157 => (some (t157 == 1))) else (none))) else (none)) else (none)) else (none)) else (none))) else (none)) else (none))) else (none)) else (none))) else (none)) else (none)))) else (none)) else (none)))))))) = some r := H
  have A5 := Aside0.mk A50
  clear A50
  obtain ⟨y135, hy135⟩ : ∃ y_ : List Int, y_ = (([(-4611686018427387904), 2] : List Int)) := ⟨_, rfl⟩
  replace H : ((num_Mul.f k y135).bind fun bt138 => ((num_Mul.f k (([(-9223372036854775808), (-1)] : List Int))).bind fun bt143 => ((num_Parse.f (⟨#[45, 49, 50]⟩ : ByteArray)).bind fun bt145 => ((num_Parse.f (⟨#[48, 49, 50]⟩ : ByteArray)).bind fun bt147 => ((num_Add.f k ([] : List Int)).bind fun bt149 => ((num_Mul.f k ([] : List Int)).bind fun bt151 => (if t119 = (-1) then (if t120 = true then (if t125 = true then (none) else (if t130 = true then (none) else (if t131 = (-9223372036854775807) then (if t132 = true then (if t134 = true then (none) else (if bt138.1 = (-9223372036854775808) then (if bt138.2 = true then (if bt143.2 = true then (none) else (if bt145.1 = (-12) then (if bt145.2 = true then (if bt147.2 = true then (none) else (if bt149.1 = 0 then (if bt149.2 = true then (if bt151.1 = 1 then (if bt151.2 = true then ((num_Text.f (-7)).bind fun t153 => (if t153.toList = ([45, 55] : List UInt8) then ((num_Least.f k 3 (([1, 2] : List Int))).bind fun t157 => (some (t157 == 1))) else (none))) else (none)) else (none)) else (none)) else (none))) else (none)) else (none))) else (none)) else (none))) else (none)) else (none)))) else (none)) else (none)))))))) = some r := by first | (rw [hy135]; with_reducible exact H) | (have H2_ := (Option.bind_some _ _).symm.trans H; rw [hy135]; with_reducible exact H2_) | (have H2_ := (Option.bind_some _ _).symm.trans H; with_reducible exact H2_) | with_reducible exact H | (rw [hy135]; exact H) | exact H
  have Ny135 := Aside0.mk hy135
  clear hy135
  replace H := Option.bind_eq_some_iff.mp H
  obtain ⟨⟨t138, t139⟩, A60, H⟩ := H
  replace H : ((num_Mul.f k (([(-9223372036854775808), (-1)] : List Int))).bind fun bt143 => ((num_Parse.f (⟨#[45, 49, 50]⟩ : ByteArray)).bind fun bt145 => ((num_Parse.f (⟨#[48, 49, 50]⟩ : ByteArray)).bind fun bt147 => ((num_Add.f k ([] : List Int)).bind fun bt149 => ((num_Mul.f k ([] : List Int)).bind fun bt151 => (if t119 = (-1) then (if t120 = true then (if t125 = true then (none) else (if t130 = true then (none) else (if t131 = (-9223372036854775807) then (if t132 = true then (if t134 = true then (none) else (if t138 = (-9223372036854775808) then (if t139 = true then (if bt143.2 = true then (none) else (if bt145.1 = (-12) then (if bt145.2 = true then (if bt147.2 = true then (none) else (if bt149.1 = 0 then (if bt149.2 = true then (if bt151.1 = 1 then (if bt151.2 = true then ((num_Text.f (-7)).bind fun t153 => (if t153.toList = ([45, 55] : List UInt8) then ((num_Least.f k 3 (([1, 2] : List Int))).bind fun t157 => (some (t157 == 1))) else (none))) else (none)) else (none)) else (none)) else (none))) else (none)) else (none))) else (none)) else (none))) else (none)) else (none)))) else (none)) else (none))))))) = some r := H
  have A6 := Aside0.mk A60
  clear A60
  obtain ⟨y140, hy140⟩ : ∃ y_ : List Int, y_ = (([(-9223372036854775808), (-1)] : List Int)) := ⟨_, rfl⟩
  replace H : ((num_Mul.f k y140).bind fun bt143 => ((num_Parse.f (⟨#[45, 49, 50]⟩ : ByteArray)).bind fun bt145 => ((num_Parse.f (⟨#[48, 49, 50]⟩ : ByteArray)).bind fun bt147 => ((num_Add.f k ([] : List Int)).bind fun bt149 => ((num_Mul.f k ([] : List Int)).bind fun bt151 => (if t119 = (-1) then (if t120 = true then (if t125 = true then (none) else (if t130 = true then (none) else (if t131 = (-9223372036854775807) then (if t132 = true then (if t134 = true then (none) else (if t138 = (-9223372036854775808) then (if t139 = true then (if bt143.2 = true then (none) else (if bt145.1 = (-12) then (if bt145.2 = true then (if bt147.2 = true then (none) else (if bt149.1 = 0 then (if bt149.2 = true then (if bt151.1 = 1 then (if bt151.2 = true then ((num_Text.f (-7)).bind fun t153 => (if t153.toList = ([45, 55] : List UInt8) then ((num_Least.f k 3 (([1, 2] : List Int))).bind fun t157 => (some (t157 == 1))) else (none))) else (none)) else (none)) else (none)) else (none))) else (none)) else (none))) else (none)) else (none))) else (none)) else (none)))) else (none)) else (none))))))) = some r := by first | (rw [hy140]; with_reducible exact H) | (have H2_ := (Option.bind_some _ _).symm.trans H; rw [hy140]; with_reducible exact H2_) | (have H2_ := (Option.bind_some _ _).symm.trans H; with_reducible exact H2_) | with_reducible exact H | (rw [hy140]; exact H) | exact H
  have Ny140 := Aside0.mk hy140
  clear hy140
  replace H := Option.bind_eq_some_iff.mp H
  obtain ⟨⟨t143, t144⟩, A70, H⟩ := H
  replace H : ((num_Parse.f (⟨#[45, 49, 50]⟩ : ByteArray)).bind fun bt145 => ((num_Parse.f (⟨#[48, 49, 50]⟩ : ByteArray)).bind fun bt147 => ((num_Add.f k ([] : List Int)).bind fun bt149 => ((num_Mul.f k ([] : List Int)).bind fun bt151 => (if t119 = (-1) then (if t120 = true then (if t125 = true then (none) else (if t130 = true then (none) else (if t131 = (-9223372036854775807) then (if t132 = true then (if t134 = true then (none) else (if t138 = (-9223372036854775808) then (if t139 = true then (if t144 = true then (none) else (if bt145.1 = (-12) then (if bt145.2 = true then (if bt147.2 = true then (none) else (if bt149.1 = 0 then (if bt149.2 = true then (if bt151.1 = 1 then (if bt151.2 = true then ((num_Text.f (-7)).bind fun t153 => (if t153.toList = ([45, 55] : List UInt8) then ((num_Least.f k 3 (([1, 2] : List Int))).bind fun t157 => (some (t157 == 1))) else (none))) else (none)) else (none)) else (none)) else (none))) else (none)) else (none))) else (none)) else (none))) else (none)) else (none)))) else (none)) else (none)))))) = some r := H
  have A7 := Aside0.mk A70
  clear A70
  replace H := Option.bind_eq_some_iff.mp H
  obtain ⟨⟨t145, t146⟩, A80, H⟩ := H
  replace H : ((num_Parse.f (⟨#[48, 49, 50]⟩ : ByteArray)).bind fun bt147 => ((num_Add.f k ([] : List Int)).bind fun bt149 => ((num_Mul.f k ([] : List Int)).bind fun bt151 => (if t119 = (-1) then (if t120 = true then (if t125 = true then (none) else (if t130 = true then (none) else (if t131 = (-9223372036854775807) then (if t132 = true then (if t134 = true then (none) else (if t138 = (-9223372036854775808) then (if t139 = true then (if t144 = true then (none) else (if t145 = (-12) then (if t146 = true then (if bt147.2 = true then (none) else (if bt149.1 = 0 then (if bt149.2 = true then (if bt151.1 = 1 then (if bt151.2 = true then ((num_Text.f (-7)).bind fun t153 => (if t153.toList = ([45, 55] : List UInt8) then ((num_Least.f k 3 (([1, 2] : List Int))).bind fun t157 => (some (t157 == 1))) else (none))) else (none)) else (none)) else (none)) else (none))) else (none)) else (none))) else (none)) else (none))) else (none)) else (none)))) else (none)) else (none))))) = some r := H
  have A8 := Aside0.mk A80
  clear A80
  replace H := Option.bind_eq_some_iff.mp H
  obtain ⟨⟨t147, t148⟩, A90, H⟩ := H
  replace H : ((num_Add.f k ([] : List Int)).bind fun bt149 => ((num_Mul.f k ([] : List Int)).bind fun bt151 => (if t119 = (-1) then (if t120 = true then (if t125 = true then (none) else (if t130 = true then (none) else (if t131 = (-9223372036854775807) then (if t132 = true then (if t134 = true then (none) else (if t138 = (-9223372036854775808) then (if t139 = true then (if t144 = true then (none) else (if t145 = (-12) then (if t146 = true then (if t148 = true then (none) else (if bt149.1 = 0 then (if bt149.2 = true then (if bt151.1 = 1 then (if bt151.2 = true then ((num_Text.f (-7)).bind fun t153 => (if t153.toList = ([45, 55] : List UInt8) then ((num_Least.f k 3 (([1, 2] : List Int))).bind fun t157 => (some (t157 == 1))) else (none))) else (none)) else (none)) else (none)) else (none))) else (none)) else (none))) else (none)) else (none))) else (none)) else (none)))) else (none)) else (none)))) = some r := H
  have A9 := Aside0.mk A90
  clear A90
  replace H := Option.bind_eq_some_iff.mp H
  obtain ⟨⟨t149, t150⟩, A100, H⟩ := H
  replace H : ((num_Mul.f k ([] : List Int)).bind fun bt151 => (if t119 = (-1) then (if t120 = true then (if t125 = true then (none) else (if t130 = true then (none) else (if t131 = (-9223372036854775807) then (if t132 = true then (if t134 = true then (none) else (if t138 = (-9223372036854775808) then (if t139 = true then (if t144 = true then (none) else (if t145 = (-12) then (if t146 = true then (if t148 = true then (none) else (if t149 = 0 then (if t150 = true then (if bt151.1 = 1 then (if bt151.2 = true then ((num_Text.f (-7)).bind fun t153 => (if t153.toList = ([45, 55] : List UInt8) then ((num_Least.f k 3 (([1, 2] : List Int))).bind fun t157 => (some (t157 == 1))) else (none))) else (none)) else (none)) else (none)) else (none))) else (none)) else (none))) else (none)) else (none))) else (none)) else (none)))) else (none)) else (none))) = some r := H
  have A10 := Aside0.mk A100
  clear A100
  replace H := Option.bind_eq_some_iff.mp H
  obtain ⟨⟨t151, t152⟩, A110, H⟩ := H
  replace H : (if t119 = (-1) then (if t120 = true then (if t125 = true then (none) else (if t130 = true then (none) else (if t131 = (-9223372036854775807) then (if t132 = true then (if t134 = true then (none) else (if t138 = (-9223372036854775808) then (if t139 = true then (if t144 = true then (none) else (if t145 = (-12) then (if t146 = true then (if t148 = true then (none) else (if t149 = 0 then (if t150 = true then (if t151 = 1 then (if t152 = true then ((num_Text.f (-7)).bind fun t153 => (if t153.toList = ([45, 55] : List UInt8) then ((num_Least.f k 3 (([1, 2] : List Int))).bind fun t157 => (some (t157 == 1))) else (none))) else (none)) else (none)) else (none)) else (none))) else (none)) else (none))) else (none)) else (none))) else (none)) else (none)))) else (none)) else (none)) = some r := H
  have A11 := Aside0.mk A110
  clear A110
  by_cases c12 : t119 = (-1)
  · rw [if_pos c12] at H
    have c12b0 : (t119 == (-1)) = true := beq_iff_eq.mpr c12
    have c12b1 : (t119 != (-1)) = false := bne_eq_false_iff_eq.mpr c12
    clear c12
    by_cases c13 : t120 = true
    · subst c13
      have H1 : (if t125 = true then (none) else (if t130 = true then (none) else (if t131 = (-9223372036854775807) then (if t132 = true then (if t134 = true then (none) else (if t138 = (-9223372036854775808) then (if t139 = true then (if t144 = true then (none) else (if t145 = (-12) then (if t146 = true then (if t148 = true then (none) else (if t149 = 0 then (if t150 = true then (if t151 = 1 then (if t152 = true then ((num_Text.f (-7)).bind fun t153 => (if t153.toList = ([45, 55] : List UInt8) then ((num_Least.f k 3 (([1, 2] : List Int))).bind fun t157 => (some (t157 == 1))) else (none))) else (none)) else (none)) else (none)) else (none))) else (none)) else (none))) else (none)) else (none))) else (none)) else (none)))) = some r := by rw [if_pos rfl] at H; exact H
      clear H
      have H := H1
      clear H1
      by_cases c14 : t125 = true
      · subst c14
        have H1 : (none) = some r := by rw [if_pos rfl] at H; exact H
        clear H
        have H := H1
        clear H1
        exact absurd H (by simp)
      · replace c14 := Bool.eq_false_iff.mpr c14
        subst c14
        have H1 : (if t130 = true then (none) else (if t131 = (-9223372036854775807) then (if t132 = true then (if t134 = true then (none) else (if t138 = (-9223372036854775808) then (if t139 = true then (if t144 = true then (none) else (if t145 = (-12) then (if t146 = true then (if t148 = true then (none) else (if t149 = 0 then (if t150 = true then (if t151 = 1 then (if t152 = true then ((num_Text.f (-7)).bind fun t153 => (if t153.toList = ([45, 55] : List UInt8) then ((num_Least.f k 3 (([1, 2] : List Int))).bind fun t157 => (some (t157 == 1))) else (none))) else (none)) else (none)) else (none)) else (none))) else (none)) else (none))) else (none)) else (none))) else (none)) else (none))) = some r := by rw [if_neg (show ¬ (false = true) by decide)] at H; exact H
        clear H
        have H := H1
        clear H1
        by_cases c15 : t130 = true
        · subst c15
          have H1 : (none) = some r := by rw [if_pos rfl] at H; exact H
          clear H
          have H := H1
          clear H1
          exact absurd H (by simp)
        · replace c15 := Bool.eq_false_iff.mpr c15
          subst c15
          have H1 : (if t131 = (-9223372036854775807) then (if t132 = true then (if t134 = true then (none) else (if t138 = (-9223372036854775808) then (if t139 = true then (if t144 = true then (none) else (if t145 = (-12) then (if t146 = true then (if t148 = true then (none) else (if t149 = 0 then (if t150 = true then (if t151 = 1 then (if t152 = true then ((num_Text.f (-7)).bind fun t153 => (if t153.toList = ([45, 55] : List UInt8) then ((num_Least.f k 3 (([1, 2] : List Int))).bind fun t157 => (some (t157 == 1))) else (none))) else (none)) else (none)) else (none)) else (none))) else (none)) else (none))) else (none)) else (none))) else (none)) else (none)) = some r := by rw [if_neg (show ¬ (false = true) by decide)] at H; exact H
          clear H
          have H := H1
          clear H1
          by_cases c16 : t131 = (-9223372036854775807)
          · rw [if_pos c16] at H
            have c16b0 : (t131 == (-9223372036854775807)) = true := beq_iff_eq.mpr c16
            have c16b1 : (t131 != (-9223372036854775807)) = false := bne_eq_false_iff_eq.mpr c16
            clear c16
            by_cases c17 : t132 = true
            · subst c17
              have H1 : (if t134 = true then (none) else (if t138 = (-9223372036854775808) then (if t139 = true then (if t144 = true then (none) else (if t145 = (-12) then (if t146 = true then (if t148 = true then (none) else (if t149 = 0 then (if t150 = true then (if t151 = 1 then (if t152 = true then ((num_Text.f (-7)).bind fun t153 => (if t153.toList = ([45, 55] : List UInt8) then ((num_Least.f k 3 (([1, 2] : List Int))).bind fun t157 => (some (t157 == 1))) else (none))) else (none)) else (none)) else (none)) else (none))) else (none)) else (none))) else (none)) else (none))) = some r := by rw [if_pos rfl] at H; exact H
              clear H
              have H := H1
              clear H1
              by_cases c18 : t134 = true
              · subst c18
                have H1 : (none) = some r := by rw [if_pos rfl] at H; exact H
                clear H
                have H := H1
                clear H1
                exact absurd H (by simp)
              · replace c18 := Bool.eq_false_iff.mpr c18
                subst c18
                have H1 : (if t138 = (-9223372036854775808) then (if t139 = true then (if t144 = true then (none) else (if t145 = (-12) then (if t146 = true then (if t148 = true then (none) else (if t149 = 0 then (if t150 = true then (if t151 = 1 then (if t152 = true then ((num_Text.f (-7)).bind fun t153 => (if t153.toList = ([45, 55] : List UInt8) then ((num_Least.f k 3 (([1, 2] : List Int))).bind fun t157 => (some (t157 == 1))) else (none))) else (none)) else (none)) else (none)) else (none))) else (none)) else (none))) else (none)) else (none)) = some r := by rw [if_neg (show ¬ (false = true) by decide)] at H; exact H
                clear H
                have H := H1
                clear H1
                by_cases c19 : t138 = (-9223372036854775808)
                · rw [if_pos c19] at H
                  have c19b0 : (t138 == (-9223372036854775808)) = true := beq_iff_eq.mpr c19
                  have c19b1 : (t138 != (-9223372036854775808)) = false := bne_eq_false_iff_eq.mpr c19
                  clear c19
                  by_cases c20 : t139 = true
                  · subst c20
                    have H1 : (if t144 = true then (none) else (if t145 = (-12) then (if t146 = true then (if t148 = true then (none) else (if t149 = 0 then (if t150 = true then (if t151 = 1 then (if t152 = true then ((num_Text.f (-7)).bind fun t153 => (if t153.toList = ([45, 55] : List UInt8) then ((num_Least.f k 3 (([1, 2] : List Int))).bind fun t157 => (some (t157 == 1))) else (none))) else (none)) else (none)) else (none)) else (none))) else (none)) else (none))) = some r := by rw [if_pos rfl] at H; exact H
                    clear H
                    have H := H1
                    clear H1
                    by_cases c21 : t144 = true
                    · subst c21
                      have H1 : (none) = some r := by rw [if_pos rfl] at H; exact H
                      clear H
                      have H := H1
                      clear H1
                      exact absurd H (by simp)
                    · replace c21 := Bool.eq_false_iff.mpr c21
                      subst c21
                      have H1 : (if t145 = (-12) then (if t146 = true then (if t148 = true then (none) else (if t149 = 0 then (if t150 = true then (if t151 = 1 then (if t152 = true then ((num_Text.f (-7)).bind fun t153 => (if t153.toList = ([45, 55] : List UInt8) then ((num_Least.f k 3 (([1, 2] : List Int))).bind fun t157 => (some (t157 == 1))) else (none))) else (none)) else (none)) else (none)) else (none))) else (none)) else (none)) = some r := by rw [if_neg (show ¬ (false = true) by decide)] at H; exact H
                      clear H
                      have H := H1
                      clear H1
                      by_cases c22 : t145 = (-12)
                      · rw [if_pos c22] at H
                        have c22b0 : (t145 == (-12)) = true := beq_iff_eq.mpr c22
                        have c22b1 : (t145 != (-12)) = false := bne_eq_false_iff_eq.mpr c22
                        clear c22
                        by_cases c23 : t146 = true
                        · subst c23
                          have H1 : (if t148 = true then (none) else (if t149 = 0 then (if t150 = true then (if t151 = 1 then (if t152 = true then ((num_Text.f (-7)).bind fun t153 => (if t153.toList = ([45, 55] : List UInt8) then ((num_Least.f k 3 (([1, 2] : List Int))).bind fun t157 => (some (t157 == 1))) else (none))) else (none)) else (none)) else (none)) else (none))) = some r := by rw [if_pos rfl] at H; exact H
                          clear H
                          have H := H1
                          clear H1
                          by_cases c24 : t148 = true
                          · subst c24
                            have H1 : (none) = some r := by rw [if_pos rfl] at H; exact H
                            clear H
                            have H := H1
                            clear H1
                            exact absurd H (by simp)
                          · replace c24 := Bool.eq_false_iff.mpr c24
                            subst c24
                            have H1 : (if t149 = 0 then (if t150 = true then (if t151 = 1 then (if t152 = true then ((num_Text.f (-7)).bind fun t153 => (if t153.toList = ([45, 55] : List UInt8) then ((num_Least.f k 3 (([1, 2] : List Int))).bind fun t157 => (some (t157 == 1))) else (none))) else (none)) else (none)) else (none)) else (none)) = some r := by rw [if_neg (show ¬ (false = true) by decide)] at H; exact H
                            clear H
                            have H := H1
                            clear H1
                            by_cases c25 : t149 = 0
                            · rw [if_pos c25] at H
                              have c25b0 : (t149 == 0) = true := beq_iff_eq.mpr c25
                              have c25b1 : (t149 != 0) = false := bne_eq_false_iff_eq.mpr c25
                              clear c25
                              by_cases c26 : t150 = true
                              · subst c26
                                have H1 : (if t151 = 1 then (if t152 = true then ((num_Text.f (-7)).bind fun t153 => (if t153.toList = ([45, 55] : List UInt8) then ((num_Least.f k 3 (([1, 2] : List Int))).bind fun t157 => (some (t157 == 1))) else (none))) else (none)) else (none)) = some r := by rw [if_pos rfl] at H; exact H
                                clear H
                                have H := H1
                                clear H1
                                by_cases c27 : t151 = 1
                                · rw [if_pos c27] at H
                                  have c27b0 : (t151 == 1) = true := beq_iff_eq.mpr c27
                                  have c27b1 : (t151 != 1) = false := bne_eq_false_iff_eq.mpr c27
                                  clear c27
                                  by_cases c28 : t152 = true
                                  · subst c28
                                    have H1 : ((num_Text.f (-7)).bind fun t153 => (if t153.toList = ([45, 55] : List UInt8) then ((num_Least.f k 3 (([1, 2] : List Int))).bind fun t157 => (some (t157 == 1))) else (none))) = some r := by rw [if_pos rfl] at H; exact H
                                    clear H
                                    have H := H1
                                    clear H1
                                    replace H := Option.bind_eq_some_iff.mp H
                                    obtain ⟨t153, A290, H⟩ := H
                                    replace H : (if t153.toList = ([45, 55] : List UInt8) then ((num_Least.f k 3 (([1, 2] : List Int))).bind fun t157 => (some (t157 == 1))) else (none)) = some r := H
                                    have A29 := Aside0.mk A290
                                    clear A290
                                    by_cases c30 : t153.toList = ([45, 55] : List UInt8)
                                    · rw [if_pos c30] at H
                                      have c30b0 : (t153.toList == ([45, 55] : List UInt8)) = true := beq_iff_eq.mpr c30
                                      have c30b1 : (t153.toList != ([45, 55] : List UInt8)) = false := bne_eq_false_iff_eq.mpr c30
                                      clear c30
                                      obtain ⟨y154, hy154⟩ : ∃ y_ : List Int, y_ = (([1, 2] : List Int)) := ⟨_, rfl⟩
                                      replace H : ((num_Least.f k 3 y154).bind fun t157 => (some (t157 == 1))) = some r := by first | (rw [hy154]; with_reducible exact H) | (have H2_ := (Option.bind_some _ _).symm.trans H; rw [hy154]; with_reducible exact H2_) | (have H2_ := (Option.bind_some _ _).symm.trans H; with_reducible exact H2_) | with_reducible exact H | (rw [hy154]; exact H) | exact H
                                      have Ny154 := Aside0.mk hy154
                                      clear hy154
                                      replace H := Option.bind_eq_some_iff.mp H
                                      obtain ⟨t157, A310, H⟩ := H
                                      replace H : (some (t157 == 1)) = some r := H
                                      have A31 := Aside0.mk A310
                                      clear A310
                                      obtain rfl := Option.some.inj H
                                      go_enter Tryd.func9, Tryd.ntmps9
                                      go_wp2_with (first | ((with_reducible refine gate_dst (N := 24) rfl ?_); (try (refine gate_guard (by rfl) ?_; dsimp only)); refine Kd.R_lit (Kd.int .i64) _ 2 ?hg (N := 24) ?hd (xs := ([1, 2, (-4)] : List Int)) (inner := [.int .i64 1, .int .i64 2, .int .i64 (-4)]) (ok := fun _ => True) (okp := fun _ => True) ?hr ?hp (fun _ hk => hk) trivial (Below.refl _ _) (Nat.le_refl _) (by simp) ?_; (case hd => rfl); (case hg => rfl); (case hr => first | (go_simp; done) | (go_simp; rfl)); (case hp => exact (Reps.one (show Kd.M (Kd.int .i64) _ _ _ 1 [.int .i64 1] from rfl) (Reps.one (show Kd.M (Kd.int .i64) _ _ _ 2 [.int .i64 2] from rfl) (Reps.one (show Kd.M (Kd.int .i64) _ _ _ (-4) [.int .i64 (-4)] from rfl) (Reps.none _ _))))); intro v117 w32 ho33 hb hg_ hnew_; clear hg_ hnew_; (first | rw [← Ny116.out] at ho33 | (simp only [Int.reduceToNat] at ho33; rw [← Ny116.out] at ho33)); have n0_ := Aside0.mk (Kd.R_lower ho33 (below_size (by repeat (first | (with_reducible first | exact HB.out | apply below_alloc | apply pw_below_drewN | apply below_drew1) | exact HB.out)))); have n1_ := Aside0.mk (below_step (by repeat (first | (with_reducible first | exact HB.out | apply below_alloc | apply pw_below_drewN | apply below_drew1) | exact HB.out)) hb); clear HB; have HO118 := n0_; have HB := n1_; clear n0_ n1_; clear hb ho33; obtain ⟨Ao34, co34, eo34⟩ := Kd.R_slice HO118.out; subst eo34) | ((with_reducible refine gate_callee (f := 10) rfl ?_); refine goesL_ (some 25) rfl rfl Tryd.func10 (by kernel_rfl) rfl #[.slice Ao34 y116.length co34] rfl (by (try simp only [List.map_toArray, List.map_cons, List.map_nil]); first | done | rfl | (simp only [List.length_drop, List.length_take]; rfl)) ?_; (with_reducible refine (num_Add.calls k _ _ y116 t119 true _ ?side1 ?side2 A1.out).mono ?_); (case side1 => repeat (first | exact (Kd.R_reads' HO118.out).2.2 | (with_reducible refine Kd.C_alloc ?_ _) | (with_reducible refine Kd.C_drewN ?_ _) | (with_reducible refine Kd.C_drew ?_))); (case side2 => exact (Kd.R_reads' HO118.out).2.1); rintro e w' ⟨rfl, ⟨nd, rfl⟩⟩; refine ⟨_, rfl, ?_⟩) | ((with_reducible refine gate_dst (N := 29) rfl ?_); (try (refine gate_guard (by rfl) ?_; dsimp only)); refine Kd.R_lit (Kd.int .i64) _ 2 ?hg (N := 29) ?hd (xs := ([9223372036854775807, 1] : List Int)) (inner := [.int .i64 9223372036854775807, .int .i64 1]) (ok := fun _ => True) (okp := fun _ => True) ?hr ?hp (fun _ hk => hk) trivial (Below.refl _ _) (Nat.le_refl _) (by simp) ?_; (case hd => rfl); (case hg => rfl); (case hr => first | (go_simp; done) | (go_simp; rfl)); (case hp => exact (Reps.one (show Kd.M (Kd.int .i64) _ _ _ 9223372036854775807 [.int .i64 9223372036854775807] from rfl) (Reps.one (show Kd.M (Kd.int .i64) _ _ _ 1 [.int .i64 1] from rfl) (Reps.none _ _)))); intro v122 w35 ho36 hb hg_ hnew_; clear hg_ hnew_; (first | rw [← Ny121.out] at ho36 | (simp only [Int.reduceToNat] at ho36; rw [← Ny121.out] at ho36)); have n0_ := Aside0.mk (Kd.R_elder' (by (with_reducible repeat (first | apply Kd.R_alloc | apply Kd.R_drewN | apply Kd.R_drew)); exact HO118.out) (Kd.R_base ho36) hb); have n1_ := Aside0.mk (Kd.R_lower (Kd.R_new' ho36 (Kd.R_lt (by (with_reducible repeat (first | apply Kd.R_alloc | apply Kd.R_drewN | apply Kd.R_drew)); exact HO118.out))) (below_size (by repeat (first | (with_reducible first | exact HB.out | apply below_alloc | apply pw_below_drewN | apply below_drew1) | exact HB.out)))); have n2_ := Aside0.mk (below_step (by repeat (first | (with_reducible first | exact HB.out | apply below_alloc | apply pw_below_drewN | apply below_drew1) | exact HB.out)) hb); clear HO118; clear HB; have HO118 := n0_; have HO123 := n1_; have HB := n2_; clear n0_ n1_ n2_; clear hb ho36; obtain ⟨Ao37, co37, eo37⟩ := Kd.R_slice HO123.out; subst eo37) | ((with_reducible refine gate_callee (f := 10) rfl ?_); refine goesL_ (some 30) rfl rfl Tryd.func10 (by kernel_rfl) rfl #[.slice Ao37 y121.length co37] rfl (by (try simp only [List.map_toArray, List.map_cons, List.map_nil]); first | done | rfl | (simp only [List.length_drop, List.length_take]; rfl)) ?_; (with_reducible refine (num_Add.calls k _ _ y121 t124 false _ ?side1 ?side2 A2.out).mono ?_); (case side1 => repeat (first | exact (Kd.R_reads' HO123.out).2.2 | (with_reducible refine Kd.C_alloc ?_ _) | (with_reducible refine Kd.C_drewN ?_ _) | (with_reducible refine Kd.C_drew ?_))); (case side2 => exact (Kd.R_reads' HO123.out).2.1); rintro e w' ⟨rfl, ⟨nd, rfl⟩⟩; refine ⟨_, rfl, ?_⟩) | ((with_reducible refine gate_dst (N := 34) rfl ?_); (try (refine gate_guard (by rfl) ?_; dsimp only)); refine Kd.R_lit (Kd.int .i64) _ 2 ?hg (N := 34) ?hd (xs := ([9223372036854775807, 1, (-1)] : List Int)) (inner := [.int .i64 9223372036854775807, .int .i64 1, .int .i64 (-1)]) (ok := fun _ => True) (okp := fun _ => True) ?hr ?hp (fun _ hk => hk) trivial (Below.refl _ _) (Nat.le_refl _) (by simp) ?_; (case hd => rfl); (case hg => rfl); (case hr => first | (go_simp; done) | (go_simp; rfl)); (case hp => exact (Reps.one (show Kd.M (Kd.int .i64) _ _ _ 9223372036854775807 [.int .i64 9223372036854775807] from rfl) (Reps.one (show Kd.M (Kd.int .i64) _ _ _ 1 [.int .i64 1] from rfl) (Reps.one (show Kd.M (Kd.int .i64) _ _ _ (-1) [.int .i64 (-1)] from rfl) (Reps.none _ _))))); intro v127 w38 ho39 hb hg_ hnew_; clear hg_ hnew_; (first | rw [← Ny126.out] at ho39 | (simp only [Int.reduceToNat] at ho39; rw [← Ny126.out] at ho39)); have n0_ := Aside0.mk (Kd.R_elder' (by (with_reducible repeat (first | apply Kd.R_alloc | apply Kd.R_drewN | apply Kd.R_drew)); exact HO118.out) (Kd.R_base ho39) hb); have n1_ := Aside0.mk (Kd.R_elder' (by (with_reducible repeat (first | apply Kd.R_alloc | apply Kd.R_drewN | apply Kd.R_drew)); exact HO123.out) (Kd.R_base ho39) hb); have n2_ := Aside0.mk (Kd.R_lower (Kd.R_new' (Kd.R_new' ho39 (Kd.R_lt (by (with_reducible repeat (first | apply Kd.R_alloc | apply Kd.R_drewN | apply Kd.R_drew)); exact HO118.out))) (Kd.R_lt (by (with_reducible repeat (first | apply Kd.R_alloc | apply Kd.R_drewN | apply Kd.R_drew)); exact HO123.out))) (below_size (by repeat (first | (with_reducible first | exact HB.out | apply below_alloc | apply pw_below_drewN | apply below_drew1) | exact HB.out)))); have n3_ := Aside0.mk (below_step (by repeat (first | (with_reducible first | exact HB.out | apply below_alloc | apply pw_below_drewN | apply below_drew1) | exact HB.out)) hb); clear HO118; clear HO123; clear HB; have HO118 := n0_; have HO123 := n1_; have HO128 := n2_; have HB := n3_; clear n0_ n1_ n2_ n3_; clear hb ho39; obtain ⟨Ao40, co40, eo40⟩ := Kd.R_slice HO128.out; subst eo40) | ((with_reducible refine gate_callee (f := 10) rfl ?_); refine goesL_ (some 35) rfl rfl Tryd.func10 (by kernel_rfl) rfl #[.slice Ao40 y126.length co40] rfl (by (try simp only [List.map_toArray, List.map_cons, List.map_nil]); first | done | rfl | (simp only [List.length_drop, List.length_take]; rfl)) ?_; (with_reducible refine (num_Add.calls k _ _ y126 t129 false _ ?side1 ?side2 A3.out).mono ?_); (case side1 => repeat (first | exact (Kd.R_reads' HO128.out).2.2 | (with_reducible refine Kd.C_alloc ?_ _) | (with_reducible refine Kd.C_drewN ?_ _) | (with_reducible refine Kd.C_drew ?_))); (case side2 => exact (Kd.R_reads' HO128.out).2.1); rintro e w' ⟨rfl, ⟨nd, rfl⟩⟩; refine ⟨_, rfl, ?_⟩) | ((with_reducible refine gate_callee (f := 14) rfl ?_); refine goesL_ (some 39) rfl rfl Tryd.func14 (by kernel_rfl) rfl #[.int .i64 (-9223372036854775808), .int .i64 (-1)] rfl (by (try simp only [List.map_toArray, List.map_cons, List.map_nil]); first | done | rfl | (simp only [List.length_drop, List.length_take]; rfl)) ?_; (with_reducible refine (num_Sub.calls (-9223372036854775808) (-1) t131 true _ A4.out).mono ?_); rintro e w' ⟨rfl, ⟨nd, rfl⟩⟩; refine ⟨_, rfl, ?_⟩) | ((with_reducible refine gate_callee (f := 14) rfl ?_); refine goesL_ (some 43) rfl rfl Tryd.func14 (by kernel_rfl) rfl #[.int .i64 (-9223372036854775808), .int .i64 1] rfl (by (try simp only [List.map_toArray, List.map_cons, List.map_nil]); first | done | rfl | (simp only [List.length_drop, List.length_take]; rfl)) ?_; (with_reducible refine (num_Sub.calls (-9223372036854775808) 1 t133 false _ A5.out).mono ?_); rintro e w' ⟨rfl, ⟨nd, rfl⟩⟩; refine ⟨_, rfl, ?_⟩) | ((with_reducible refine gate_dst (N := 47) rfl ?_); (try (refine gate_guard (by rfl) ?_; dsimp only)); refine Kd.R_lit (Kd.int .i64) _ 2 ?hg (N := 47) ?hd (xs := ([(-4611686018427387904), 2] : List Int)) (inner := [.int .i64 (-4611686018427387904), .int .i64 2]) (ok := fun _ => True) (okp := fun _ => True) ?hr ?hp (fun _ hk => hk) trivial (Below.refl _ _) (Nat.le_refl _) (by simp) ?_; (case hd => rfl); (case hg => rfl); (case hr => first | (go_simp; done) | (go_simp; rfl)); (case hp => exact (Reps.one (show Kd.M (Kd.int .i64) _ _ _ (-4611686018427387904) [.int .i64 (-4611686018427387904)] from rfl) (Reps.one (show Kd.M (Kd.int .i64) _ _ _ 2 [.int .i64 2] from rfl) (Reps.none _ _)))); intro v136 w41 ho42 hb hg_ hnew_; clear hg_ hnew_; (first | rw [← Ny135.out] at ho42 | (simp only [Int.reduceToNat] at ho42; rw [← Ny135.out] at ho42)); have n0_ := Aside0.mk (Kd.R_elder' (by (with_reducible repeat (first | apply Kd.R_alloc | apply Kd.R_drewN | apply Kd.R_drew)); exact HO118.out) (Kd.R_base ho42) hb); have n1_ := Aside0.mk (Kd.R_elder' (by (with_reducible repeat (first | apply Kd.R_alloc | apply Kd.R_drewN | apply Kd.R_drew)); exact HO123.out) (Kd.R_base ho42) hb); have n2_ := Aside0.mk (Kd.R_elder' (by (with_reducible repeat (first | apply Kd.R_alloc | apply Kd.R_drewN | apply Kd.R_drew)); exact HO128.out) (Kd.R_base ho42) hb); have n3_ := Aside0.mk (Kd.R_lower (Kd.R_new' (Kd.R_new' (Kd.R_new' ho42 (Kd.R_lt (by (with_reducible repeat (first | apply Kd.R_alloc | apply Kd.R_drewN | apply Kd.R_drew)); exact HO118.out))) (Kd.R_lt (by (with_reducible repeat (first | apply Kd.R_alloc | apply Kd.R_drewN | apply Kd.R_drew)); exact HO123.out))) (Kd.R_lt (by (with_reducible repeat (first | apply Kd.R_alloc | apply Kd.R_drewN | apply Kd.R_drew)); exact HO128.out))) (below_size (by repeat (first | (with_reducible first | exact HB.out | apply below_alloc | apply pw_below_drewN | apply below_drew1) | exact HB.out)))); have n4_ := Aside0.mk (below_step (by repeat (first | (with_reducible first | exact HB.out | apply below_alloc | apply pw_below_drewN | apply below_drew1) | exact HB.out)) hb); clear HO118; clear HO123; clear HO128; clear HB; have HO118 := n0_; have HO123 := n1_; have HO128 := n2_; have HO137 := n3_; have HB := n4_; clear n0_ n1_ n2_ n3_ n4_; clear hb ho42; obtain ⟨Ao43, co43, eo43⟩ := Kd.R_slice HO137.out; subst eo43) | ((with_reducible refine gate_callee (f := 12) rfl ?_); refine goesL_ (some 48) rfl rfl Tryd.func12 (by kernel_rfl) rfl #[.slice Ao43 y135.length co43] rfl (by (try simp only [List.map_toArray, List.map_cons, List.map_nil]); first | done | rfl | (simp only [List.length_drop, List.length_take]; rfl)) ?_; (with_reducible refine (num_Mul.calls k _ _ y135 t138 true _ ?side1 ?side2 A6.out).mono ?_); (case side1 => repeat (first | exact (Kd.R_reads' HO137.out).2.2 | (with_reducible refine Kd.C_alloc ?_ _) | (with_reducible refine Kd.C_drewN ?_ _) | (with_reducible refine Kd.C_drew ?_))); (case side2 => exact (Kd.R_reads' HO137.out).2.1); rintro e w' ⟨rfl, ⟨nd, rfl⟩⟩; refine ⟨_, rfl, ?_⟩) | ((with_reducible refine gate_dst (N := 52) rfl ?_); (try (refine gate_guard (by rfl) ?_; dsimp only)); refine Kd.R_lit (Kd.int .i64) _ 2 ?hg (N := 52) ?hd (xs := ([(-9223372036854775808), (-1)] : List Int)) (inner := [.int .i64 (-9223372036854775808), .int .i64 (-1)]) (ok := fun _ => True) (okp := fun _ => True) ?hr ?hp (fun _ hk => hk) trivial (Below.refl _ _) (Nat.le_refl _) (by simp) ?_; (case hd => rfl); (case hg => rfl); (case hr => first | (go_simp; done) | (go_simp; rfl)); (case hp => exact (Reps.one (show Kd.M (Kd.int .i64) _ _ _ (-9223372036854775808) [.int .i64 (-9223372036854775808)] from rfl) (Reps.one (show Kd.M (Kd.int .i64) _ _ _ (-1) [.int .i64 (-1)] from rfl) (Reps.none _ _)))); intro v141 w44 ho45 hb hg_ hnew_; clear hg_ hnew_; (first | rw [← Ny140.out] at ho45 | (simp only [Int.reduceToNat] at ho45; rw [← Ny140.out] at ho45)); have n0_ := Aside0.mk (Kd.R_elder' (by (with_reducible repeat (first | apply Kd.R_alloc | apply Kd.R_drewN | apply Kd.R_drew)); exact HO118.out) (Kd.R_base ho45) hb); have n1_ := Aside0.mk (Kd.R_elder' (by (with_reducible repeat (first | apply Kd.R_alloc | apply Kd.R_drewN | apply Kd.R_drew)); exact HO123.out) (Kd.R_base ho45) hb); have n2_ := Aside0.mk (Kd.R_elder' (by (with_reducible repeat (first | apply Kd.R_alloc | apply Kd.R_drewN | apply Kd.R_drew)); exact HO128.out) (Kd.R_base ho45) hb); have n3_ := Aside0.mk (Kd.R_elder' (by (with_reducible repeat (first | apply Kd.R_alloc | apply Kd.R_drewN | apply Kd.R_drew)); exact HO137.out) (Kd.R_base ho45) hb); have n4_ := Aside0.mk (Kd.R_lower (Kd.R_new' (Kd.R_new' (Kd.R_new' (Kd.R_new' ho45 (Kd.R_lt (by (with_reducible repeat (first | apply Kd.R_alloc | apply Kd.R_drewN | apply Kd.R_drew)); exact HO118.out))) (Kd.R_lt (by (with_reducible repeat (first | apply Kd.R_alloc | apply Kd.R_drewN | apply Kd.R_drew)); exact HO123.out))) (Kd.R_lt (by (with_reducible repeat (first | apply Kd.R_alloc | apply Kd.R_drewN | apply Kd.R_drew)); exact HO128.out))) (Kd.R_lt (by (with_reducible repeat (first | apply Kd.R_alloc | apply Kd.R_drewN | apply Kd.R_drew)); exact HO137.out))) (below_size (by repeat (first | (with_reducible first | exact HB.out | apply below_alloc | apply pw_below_drewN | apply below_drew1) | exact HB.out)))); have n5_ := Aside0.mk (below_step (by repeat (first | (with_reducible first | exact HB.out | apply below_alloc | apply pw_below_drewN | apply below_drew1) | exact HB.out)) hb); clear HO118; clear HO123; clear HO128; clear HO137; clear HB; have HO118 := n0_; have HO123 := n1_; have HO128 := n2_; have HO137 := n3_; have HO142 := n4_; have HB := n5_; clear n0_ n1_ n2_ n3_ n4_ n5_; clear hb ho45; obtain ⟨Ao46, co46, eo46⟩ := Kd.R_slice HO142.out; subst eo46) | ((with_reducible refine gate_callee (f := 12) rfl ?_); refine goesL_ (some 53) rfl rfl Tryd.func12 (by kernel_rfl) rfl #[.slice Ao46 y140.length co46] rfl (by (try simp only [List.map_toArray, List.map_cons, List.map_nil]); first | done | rfl | (simp only [List.length_drop, List.length_take]; rfl)) ?_; (with_reducible refine (num_Mul.calls k _ _ y140 t143 false _ ?side1 ?side2 A7.out).mono ?_); (case side1 => repeat (first | exact (Kd.R_reads' HO142.out).2.2 | (with_reducible refine Kd.C_alloc ?_ _) | (with_reducible refine Kd.C_drewN ?_ _) | (with_reducible refine Kd.C_drew ?_))); (case side2 => exact (Kd.R_reads' HO142.out).2.1); rintro e w' ⟨rfl, ⟨nd, rfl⟩⟩; refine ⟨_, rfl, ?_⟩) | ((with_reducible refine gate_callee (f := 19) rfl ?_); refine goesL_ (some 57) rfl rfl Tryd.func19 (by kernel_rfl) rfl #[.string (⟨#[45, 49, 50]⟩ : ByteArray)] rfl (by (try simp only [List.map_toArray, List.map_cons, List.map_nil]); first | done | rfl | (simp only [List.length_drop, List.length_take]; rfl)) ?_; (with_reducible refine (num_Parse.calls (⟨#[45, 49, 50]⟩ : ByteArray) t145 true _ A8.out ?sideLd).mono ?_); (case sideLd => exact laid_below HLd.out (by repeat (first | (with_reducible first | exact HB.out | apply below_alloc | apply pw_below_drewN | apply below_drew1) | exact HB.out))); rintro e w47 ⟨rfl, hb⟩; refine ⟨_, rfl, ?_⟩; have n0_ := Aside0.mk (Kd.R_below (by (with_reducible repeat (first | apply Kd.R_alloc | apply Kd.R_drewN | apply Kd.R_drew)); exact HO118.out) hb); have n1_ := Aside0.mk (Kd.R_below (by (with_reducible repeat (first | apply Kd.R_alloc | apply Kd.R_drewN | apply Kd.R_drew)); exact HO123.out) hb); have n2_ := Aside0.mk (Kd.R_below (by (with_reducible repeat (first | apply Kd.R_alloc | apply Kd.R_drewN | apply Kd.R_drew)); exact HO128.out) hb); have n3_ := Aside0.mk (Kd.R_below (by (with_reducible repeat (first | apply Kd.R_alloc | apply Kd.R_drewN | apply Kd.R_drew)); exact HO137.out) hb); have n4_ := Aside0.mk (Kd.R_below (by (with_reducible repeat (first | apply Kd.R_alloc | apply Kd.R_drewN | apply Kd.R_drew)); exact HO142.out) hb); have n5_ := Aside0.mk (below_step (by repeat (first | (with_reducible first | exact HB.out | apply below_alloc | apply pw_below_drewN | apply below_drew1) | exact HB.out)) hb); clear HO118; clear HO123; clear HO128; clear HO137; clear HO142; clear HB; have HO118 := n0_; have HO123 := n1_; have HO128 := n2_; have HO137 := n3_; have HO142 := n4_; have HB := n5_; clear n0_ n1_ n2_ n3_ n4_ n5_; (try clear hb); (try clear hb2); (try clear hk); (try clear hi)) | ((with_reducible refine gate_callee (f := 19) rfl ?_); refine goesL_ (some 61) rfl rfl Tryd.func19 (by kernel_rfl) rfl #[.string (⟨#[48, 49, 50]⟩ : ByteArray)] rfl (by (try simp only [List.map_toArray, List.map_cons, List.map_nil]); first | done | rfl | (simp only [List.length_drop, List.length_take]; rfl)) ?_; (with_reducible refine (num_Parse.calls (⟨#[48, 49, 50]⟩ : ByteArray) t147 false _ A9.out ?sideLd).mono ?_); (case sideLd => exact laid_below HLd.out (by repeat (first | (with_reducible first | exact HB.out | apply below_alloc | apply pw_below_drewN | apply below_drew1) | exact HB.out))); rintro e w48 ⟨rfl, hb⟩; refine ⟨_, rfl, ?_⟩; have n0_ := Aside0.mk (Kd.R_below (by (with_reducible repeat (first | apply Kd.R_alloc | apply Kd.R_drewN | apply Kd.R_drew)); exact HO118.out) hb); have n1_ := Aside0.mk (Kd.R_below (by (with_reducible repeat (first | apply Kd.R_alloc | apply Kd.R_drewN | apply Kd.R_drew)); exact HO123.out) hb); have n2_ := Aside0.mk (Kd.R_below (by (with_reducible repeat (first | apply Kd.R_alloc | apply Kd.R_drewN | apply Kd.R_drew)); exact HO128.out) hb); have n3_ := Aside0.mk (Kd.R_below (by (with_reducible repeat (first | apply Kd.R_alloc | apply Kd.R_drewN | apply Kd.R_drew)); exact HO137.out) hb); have n4_ := Aside0.mk (Kd.R_below (by (with_reducible repeat (first | apply Kd.R_alloc | apply Kd.R_drewN | apply Kd.R_drew)); exact HO142.out) hb); have n5_ := Aside0.mk (below_step (by repeat (first | (with_reducible first | exact HB.out | apply below_alloc | apply pw_below_drewN | apply below_drew1) | exact HB.out)) hb); clear HO118; clear HO123; clear HO128; clear HO137; clear HO142; clear HB; have HO118 := n0_; have HO123 := n1_; have HO128 := n2_; have HO137 := n3_; have HO142 := n4_; have HB := n5_; clear n0_ n1_ n2_ n3_ n4_ n5_; (try clear hb); (try clear hb2); (try clear hk); (try clear hi)) | ((with_reducible refine gate_callee (f := 10) rfl ?_); refine goesL_ (some 65) rfl rfl Tryd.func10 (by kernel_rfl) rfl #[.slice none 0 0] rfl (by (try simp only [List.map_toArray, List.map_cons, List.map_nil]); first | done | rfl | (simp only [List.length_drop, List.length_take]; rfl)) ?_; (refine (num_Add.calls k _ _ ([] : List Int) t149 true _ ?side1 ?side2 A10.out).mono ?_); (case side1 => exact Kd.C_nil _ _); (case side2 => exact Nat.le_refl _); rintro e w' ⟨rfl, ⟨nd, rfl⟩⟩; refine ⟨_, rfl, ?_⟩) | ((with_reducible refine gate_callee (f := 12) rfl ?_); refine goesL_ (some 69) rfl rfl Tryd.func12 (by kernel_rfl) rfl #[.slice none 0 0] rfl (by (try simp only [List.map_toArray, List.map_cons, List.map_nil]); first | done | rfl | (simp only [List.length_drop, List.length_take]; rfl)) ?_; (refine (num_Mul.calls k _ _ ([] : List Int) t151 true _ ?side1 ?side2 A11.out).mono ?_); (case side1 => exact Kd.C_nil _ _); (case side2 => exact Nat.le_refl _); rintro e w' ⟨rfl, ⟨nd, rfl⟩⟩; refine ⟨_, rfl, ?_⟩) | (go_at_call 21; (with_reducible refine (num_Text.calls (-7) t153 _ A29.out ?sideLd).mono ?_); (case sideLd => exact laid_below HLd.out (by repeat (first | (with_reducible first | exact HB.out | apply below_alloc | apply pw_below_drewN | apply below_drew1) | exact HB.out))); rintro e w49 ⟨rfl, hb⟩; have n0_ := Aside0.mk (Kd.R_below (by (with_reducible repeat (first | apply Kd.R_alloc | apply Kd.R_drewN | apply Kd.R_drew)); exact HO118.out) hb); have n1_ := Aside0.mk (Kd.R_below (by (with_reducible repeat (first | apply Kd.R_alloc | apply Kd.R_drewN | apply Kd.R_drew)); exact HO123.out) hb); have n2_ := Aside0.mk (Kd.R_below (by (with_reducible repeat (first | apply Kd.R_alloc | apply Kd.R_drewN | apply Kd.R_drew)); exact HO128.out) hb); have n3_ := Aside0.mk (Kd.R_below (by (with_reducible repeat (first | apply Kd.R_alloc | apply Kd.R_drewN | apply Kd.R_drew)); exact HO137.out) hb); have n4_ := Aside0.mk (Kd.R_below (by (with_reducible repeat (first | apply Kd.R_alloc | apply Kd.R_drewN | apply Kd.R_drew)); exact HO142.out) hb); have n5_ := Aside0.mk (below_step (by repeat (first | (with_reducible first | exact HB.out | apply below_alloc | apply pw_below_drewN | apply below_drew1) | exact HB.out)) hb); clear HO118; clear HO123; clear HO128; clear HO137; clear HO142; clear HB; have HO118 := n0_; have HO123 := n1_; have HO128 := n2_; have HO137 := n3_; have HO142 := n4_; have HB := n5_; clear n0_ n1_ n2_ n3_ n4_ n5_; (try clear hb); (try clear hb2); (try clear hk); (try clear hi)) | ((with_reducible refine gate_dst (N := 137) rfl ?_); (try (refine gate_guard (by rfl) ?_; dsimp only)); refine Kd.R_lit (Kd.int .i64) _ 2 ?hg (N := 137) ?hd (xs := ([1, 2] : List Int)) (inner := [.int .i64 1, .int .i64 2]) (ok := fun _ => True) (okp := fun _ => True) ?hr ?hp (fun _ hk => hk) trivial (Below.refl _ _) (Nat.le_refl _) (by simp) ?_; (case hd => rfl); (case hg => rfl); (case hr => first | (go_simp; done) | (go_simp; rfl)); (case hp => exact (Reps.one (show Kd.M (Kd.int .i64) _ _ _ 1 [.int .i64 1] from rfl) (Reps.one (show Kd.M (Kd.int .i64) _ _ _ 2 [.int .i64 2] from rfl) (Reps.none _ _)))); intro v155 w50 ho51 hb hg_ hnew_; clear hg_ hnew_; (first | rw [← Ny154.out] at ho51 | (simp only [Int.reduceToNat] at ho51; rw [← Ny154.out] at ho51)); have n0_ := Aside0.mk (Kd.R_elder' (by (with_reducible repeat (first | apply Kd.R_alloc | apply Kd.R_drewN | apply Kd.R_drew)); exact HO118.out) (Kd.R_base ho51) hb); have n1_ := Aside0.mk (Kd.R_elder' (by (with_reducible repeat (first | apply Kd.R_alloc | apply Kd.R_drewN | apply Kd.R_drew)); exact HO123.out) (Kd.R_base ho51) hb); have n2_ := Aside0.mk (Kd.R_elder' (by (with_reducible repeat (first | apply Kd.R_alloc | apply Kd.R_drewN | apply Kd.R_drew)); exact HO128.out) (Kd.R_base ho51) hb); have n3_ := Aside0.mk (Kd.R_elder' (by (with_reducible repeat (first | apply Kd.R_alloc | apply Kd.R_drewN | apply Kd.R_drew)); exact HO137.out) (Kd.R_base ho51) hb); have n4_ := Aside0.mk (Kd.R_elder' (by (with_reducible repeat (first | apply Kd.R_alloc | apply Kd.R_drewN | apply Kd.R_drew)); exact HO142.out) (Kd.R_base ho51) hb); have n5_ := Aside0.mk (Kd.R_lower (Kd.R_new' (Kd.R_new' (Kd.R_new' (Kd.R_new' (Kd.R_new' ho51 (Kd.R_lt (by (with_reducible repeat (first | apply Kd.R_alloc | apply Kd.R_drewN | apply Kd.R_drew)); exact HO118.out))) (Kd.R_lt (by (with_reducible repeat (first | apply Kd.R_alloc | apply Kd.R_drewN | apply Kd.R_drew)); exact HO123.out))) (Kd.R_lt (by (with_reducible repeat (first | apply Kd.R_alloc | apply Kd.R_drewN | apply Kd.R_drew)); exact HO128.out))) (Kd.R_lt (by (with_reducible repeat (first | apply Kd.R_alloc | apply Kd.R_drewN | apply Kd.R_drew)); exact HO137.out))) (Kd.R_lt (by (with_reducible repeat (first | apply Kd.R_alloc | apply Kd.R_drewN | apply Kd.R_drew)); exact HO142.out))) (below_size (by repeat (first | (with_reducible first | exact HB.out | apply below_alloc | apply pw_below_drewN | apply below_drew1) | exact HB.out)))); have n6_ := Aside0.mk (below_step (by repeat (first | (with_reducible first | exact HB.out | apply below_alloc | apply pw_below_drewN | apply below_drew1) | exact HB.out)) hb); clear HO118; clear HO123; clear HO128; clear HO137; clear HO142; clear HB; have HO118 := n0_; have HO123 := n1_; have HO128 := n2_; have HO137 := n3_; have HO142 := n4_; have HO156 := n5_; have HB := n6_; clear n0_ n1_ n2_ n3_ n4_ n5_ n6_; clear hb ho51; obtain ⟨Ao52, co52, eo52⟩ := Kd.R_slice HO156.out; subst eo52) | (go_at_call 16; (with_reducible refine (num_Least.calls k 3 _ _ y154 t157 _ ?side1 ?side2 A31.out).mono ?_); (case side1 => repeat (first | exact (Kd.R_reads' HO156.out).2.2 | (with_reducible refine Kd.C_alloc ?_ _) | (with_reducible refine Kd.C_drewN ?_ _) | (with_reducible refine Kd.C_drew ?_))); (case side2 => exact (Kd.R_reads' HO156.out).2.1); rintro e w53 ⟨rfl, hb⟩; have n0_ := Aside0.mk (Kd.R_below (by (with_reducible repeat (first | apply Kd.R_alloc | apply Kd.R_drewN | apply Kd.R_drew)); exact HO118.out) hb); have n1_ := Aside0.mk (Kd.R_below (by (with_reducible repeat (first | apply Kd.R_alloc | apply Kd.R_drewN | apply Kd.R_drew)); exact HO123.out) hb); have n2_ := Aside0.mk (Kd.R_below (by (with_reducible repeat (first | apply Kd.R_alloc | apply Kd.R_drewN | apply Kd.R_drew)); exact HO128.out) hb); have n3_ := Aside0.mk (Kd.R_below (by (with_reducible repeat (first | apply Kd.R_alloc | apply Kd.R_drewN | apply Kd.R_drew)); exact HO137.out) hb); have n4_ := Aside0.mk (Kd.R_below (by (with_reducible repeat (first | apply Kd.R_alloc | apply Kd.R_drewN | apply Kd.R_drew)); exact HO142.out) hb); have n5_ := Aside0.mk (Kd.R_below (by (with_reducible repeat (first | apply Kd.R_alloc | apply Kd.R_drewN | apply Kd.R_drew)); exact HO156.out) hb); have n6_ := Aside0.mk (below_step (by repeat (first | (with_reducible first | exact HB.out | apply below_alloc | apply pw_below_drewN | apply below_drew1) | exact HB.out)) hb); clear HO118; clear HO123; clear HO128; clear HO137; clear HO142; clear HO156; clear HB; have HO118 := n0_; have HO123 := n1_; have HO128 := n2_; have HO137 := n3_; have HO142 := n4_; have HO156 := n5_; have HB := n6_; clear n0_ n1_ n2_ n3_ n4_ n5_ n6_; (try clear hb); (try clear hb2); (try clear hk); (try clear hi)))
                                      go_ret
                                      exact ⟨by first | rfl | (simp [errW_none, errW_some] <;> rfl) | (simp [*, errW_none, errW_some] <;> rfl), by repeat (first | (with_reducible first | exact HB.out | apply below_alloc | apply pw_below_drewN | apply below_drew1) | exact HB.out)⟩
                                    · rw [if_neg c30] at H
                                      exact absurd H (by simp)
                                  · replace c28 := Bool.eq_false_iff.mpr c28
                                    subst c28
                                    have H1 : (none) = some r := by rw [if_neg (show ¬ (false = true) by decide)] at H; exact H
                                    clear H
                                    have H := H1
                                    clear H1
                                    exact absurd H (by simp)
                                · rw [if_neg c27] at H
                                  exact absurd H (by simp)
                              · replace c26 := Bool.eq_false_iff.mpr c26
                                subst c26
                                have H1 : (none) = some r := by rw [if_neg (show ¬ (false = true) by decide)] at H; exact H
                                clear H
                                have H := H1
                                clear H1
                                exact absurd H (by simp)
                            · rw [if_neg c25] at H
                              exact absurd H (by simp)
                        · replace c23 := Bool.eq_false_iff.mpr c23
                          subst c23
                          have H1 : (none) = some r := by rw [if_neg (show ¬ (false = true) by decide)] at H; exact H
                          clear H
                          have H := H1
                          clear H1
                          exact absurd H (by simp)
                      · rw [if_neg c22] at H
                        exact absurd H (by simp)
                  · replace c20 := Bool.eq_false_iff.mpr c20
                    subst c20
                    have H1 : (none) = some r := by rw [if_neg (show ¬ (false = true) by decide)] at H; exact H
                    clear H
                    have H := H1
                    clear H1
                    exact absurd H (by simp)
                · rw [if_neg c19] at H
                  exact absurd H (by simp)
            · replace c17 := Bool.eq_false_iff.mpr c17
              subst c17
              have H1 : (none) = some r := by rw [if_neg (show ¬ (false = true) by decide)] at H; exact H
              clear H
              have H := H1
              clear H1
              exact absurd H (by simp)
          · rw [if_neg c16] at H
            exact absurd H (by simp)
    · replace c13 := Bool.eq_false_iff.mpr c13
      subst c13
      have H1 : (none) = some r := by rw [if_neg (show ¬ (false = true) by decide)] at H; exact H
      clear H
      have H := H1
      clear H1
      exact absurd H (by simp)
  · rw [if_neg c12] at H
    exact absurd H (by simp)

/-! ### archivistref02_Sum: function 24 -/
def archivistref02_Sum.f (a0 : Int) (a1 : Int) : Option (Int × Bool) := if a1 > 0 then (if a0 > (wrap64 (9223372036854775807 - a1)) then (some (0, false)) else (if a1 < 0 then (if a0 < (wrap64 ((-9223372036854775808) - a1)) then (some (0, false)) else (some (wrap64 (a0 + a1), true))) else (some (wrap64 (a0 + a1), true)))) else (if a1 < 0 then (if a0 < (wrap64 ((-9223372036854775808) - a1)) then (some (0, false)) else (some (wrap64 (a0 + a1), true))) else (some (wrap64 (a0 + a1), true)))
set_option maxHeartbeats 8000000 in
set_option maxRecDepth 100000 in
theorem archivistref02_Sum.calls (a0 : Int) (a1 : Int) (r1 : Int) (r2 : Bool) (w : World) (h : archivistref02_Sum.f a0 a1 = some (r1, r2)) :
    Calls Tryd.prog 24 #[.int .i64 a0, .int .i64 a1] w fun e w' => e = .returned (.tuple #[.int .i64 r1, .bool r2]) ∧ Drawn0 w w' := by
  have H : (if a1 > 0 then (if a0 > (wrap64 (9223372036854775807 - a1)) then (some (0, false)) else (if a1 < 0 then (if a0 < (wrap64 ((-9223372036854775808) - a1)) then (some (0, false)) else (some (wrap64 (a0 + a1), true))) else (some (wrap64 (a0 + a1), true)))) else (if a1 < 0 then (if a0 < (wrap64 ((-9223372036854775808) - a1)) then (some (0, false)) else (some (wrap64 (a0 + a1), true))) else (some (wrap64 (a0 + a1), true)))) = some (r1, r2) := h
  clear h
  by_cases c3 : a1 > 0
  · rw [if_pos c3] at H
    have c3b0 : decide (0 < a1) = true := decide_eq_true c3
    clear c3
    by_cases c4 : a0 > (wrap64 (9223372036854775807 - a1))
    · rw [if_pos c4] at H
      have c4b0 : decide ((wrap64 (9223372036854775807 - a1)) < a0) = true := decide_eq_true c4
      clear c4
      simp only [Option.some.injEq, Prod.mk.injEq] at H
      obtain ⟨rfl, rfl⟩ := H
      go_enter Tryd.func24, Tryd.ntmps24
      go_wp2
      go_ret2
      exact ⟨by first | rfl | (simp; done) | (simp [*]; done), by repeat (first | exact Drawn0.refl _ | apply Drawn0.step)⟩
    · rw [if_neg c4] at H
      have c4b0 : decide ((wrap64 (9223372036854775807 - a1)) < a0) = false := decide_eq_false c4
      clear c4
      by_cases c5 : a1 < 0
      · rw [if_pos c5] at H
        have c5b0 : decide (a1 < 0) = true := decide_eq_true c5
        clear c5
        by_cases c6 : a0 < (wrap64 ((-9223372036854775808) - a1))
        · rw [if_pos c6] at H
          have c6b0 : decide (a0 < (wrap64 ((-9223372036854775808) - a1))) = true := decide_eq_true c6
          clear c6
          simp only [Option.some.injEq, Prod.mk.injEq] at H
          obtain ⟨rfl, rfl⟩ := H
          go_enter Tryd.func24, Tryd.ntmps24
          go_wp2
          go_ret2
          exact ⟨by first | rfl | (simp; done) | (simp [*]; done), by repeat (first | exact Drawn0.refl _ | apply Drawn0.step)⟩
        · rw [if_neg c6] at H
          have c6b0 : decide (a0 < (wrap64 ((-9223372036854775808) - a1))) = false := decide_eq_false c6
          clear c6
          simp only [Option.some.injEq, Prod.mk.injEq] at H
          obtain ⟨rfl, rfl⟩ := H
          go_enter Tryd.func24, Tryd.ntmps24
          go_wp2
          go_ret2
          exact ⟨by first | rfl | (simp; done) | (simp [*]; done), by repeat (first | exact Drawn0.refl _ | apply Drawn0.step)⟩
      · rw [if_neg c5] at H
        have c5b0 : decide (a1 < 0) = false := decide_eq_false c5
        clear c5
        simp only [Option.some.injEq, Prod.mk.injEq] at H
        obtain ⟨rfl, rfl⟩ := H
        go_enter Tryd.func24, Tryd.ntmps24
        go_wp2
        go_ret2
        exact ⟨by first | rfl | (simp; done) | (simp [*]; done), by repeat (first | exact Drawn0.refl _ | apply Drawn0.step)⟩
  · rw [if_neg c3] at H
    have c3b0 : decide (0 < a1) = false := decide_eq_false c3
    clear c3
    by_cases c7 : a1 < 0
    · rw [if_pos c7] at H
      have c7b0 : decide (a1 < 0) = true := decide_eq_true c7
      clear c7
      by_cases c8 : a0 < (wrap64 ((-9223372036854775808) - a1))
      · rw [if_pos c8] at H
        have c8b0 : decide (a0 < (wrap64 ((-9223372036854775808) - a1))) = true := decide_eq_true c8
        clear c8
        simp only [Option.some.injEq, Prod.mk.injEq] at H
        obtain ⟨rfl, rfl⟩ := H
        go_enter Tryd.func24, Tryd.ntmps24
        go_wp2
        go_ret2
        exact ⟨by first | rfl | (simp; done) | (simp [*]; done), by repeat (first | exact Drawn0.refl _ | apply Drawn0.step)⟩
      · rw [if_neg c8] at H
        have c8b0 : decide (a0 < (wrap64 ((-9223372036854775808) - a1))) = false := decide_eq_false c8
        clear c8
        simp only [Option.some.injEq, Prod.mk.injEq] at H
        obtain ⟨rfl, rfl⟩ := H
        go_enter Tryd.func24, Tryd.ntmps24
        go_wp2
        go_ret2
        exact ⟨by first | rfl | (simp; done) | (simp [*]; done), by repeat (first | exact Drawn0.refl _ | apply Drawn0.step)⟩
    · rw [if_neg c7] at H
      have c7b0 : decide (a1 < 0) = false := decide_eq_false c7
      clear c7
      simp only [Option.some.injEq, Prod.mk.injEq] at H
      obtain ⟨rfl, rfl⟩ := H
      go_enter Tryd.func24, Tryd.ntmps24
      go_wp2
      go_ret2
      exact ⟨by first | rfl | (simp; done) | (simp [*]; done), by repeat (first | exact Drawn0.refl _ | apply Drawn0.step)⟩

/-! ### archivistref02_Add: function 11 -/
def archivistref02_Add.l0 : Nat → List Int → Int → Int → Option (Int × Bool)
  | 0, _, _, _ => none
  | k + 1, x0, x4, x5 => if x5 < (x0.length : Int) then (if 0 ≤ x5 then ((archivistref02_Sum.f x4 (rd x0 x5)).bind fun bt159 => (if bt159.2 = true then (archivistref02_Add.l0 k x0 bt159.1 (wrap64 (x5 + 1))) else (some (0, false)))) else (none)) else (some (x4, true))
def archivistref02_Add.f (k : Nat) (l0 : List Int) : Option (Int × Bool) := archivistref02_Add.l0 k l0 0 0
theorem archivistref02_Add.mono_l : ∀ k, (∀ y0 y1 y2, LeO (archivistref02_Add.l0 k y0 y1 y2) (archivistref02_Add.l0 (k + 1) y0 y1 y2))
  | 0 => fun _ _ _ r h => by simp [archivistref02_Add.l0] at h
  | k + 1 => by
    have ih0 := archivistref02_Add.mono_l k
    · intro y0 y1 y2
      unfold archivistref02_Add.l0
      repeat' first
      | (with_reducible exact ih0 _ _ _)
      | (with_reducible exact LeO.refl _)
      | (with_reducible exact LeO.none _)
      | (with_reducible refine LeO.ite ?_ ?_)
      | (with_reducible refine LeO.bind ?_ (fun _ => ?_))
      | exact ih0 _ _ _
      | exact LeO.none _
      | refine LeO.ite ?_ ?_
      | refine LeO.bind ?_ (fun _ => ?_)
theorem archivistref02_Add.mono : ∀ a0 k, LeO (archivistref02_Add.f k a0) (archivistref02_Add.f (k + 1) a0) := by
  intro a0 k
  have ih0 := archivistref02_Add.mono_l k
  unfold archivistref02_Add.f
  repeat' first
      | (with_reducible exact ih0 _ _ _)
      | (with_reducible exact LeO.refl _)
      | (with_reducible exact LeO.none _)
      | (with_reducible refine LeO.ite ?_ ?_)
      | (with_reducible refine LeO.bind ?_ (fun _ => ?_))
      | exact ih0 _ _ _
      | exact LeO.none _
      | refine LeO.ite ?_ ?_
      | refine LeO.bind ?_ (fun _ => ?_)
set_option maxHeartbeats 8000000 in
set_option maxRecDepth 100000 in
theorem archivistref02_Add.calls (k : Nat) (A0 : Option Addr) (c0 : Nat) (l0 : List Int) (r1 : Int) (r2 : Bool) (w : World) (hr0 : Kd.C (Kd.int .i64) w A0 l0.length l0) (hc0 : l0.length ≤ c0) (h : archivistref02_Add.f k l0 = some (r1, r2)) :
    Calls Tryd.prog 11 #[.slice A0 l0.length c0] w fun e w' => e = .returned (.tuple #[.int .i64 r1, .bool r2]) ∧ Drawn0 w w' := by
  have HR0 := Aside0.mk hr0
  have HC0 := Aside0.mk hc0
  clear hr0 hc0
  have H : (archivistref02_Add.l0 k l0 0 0) = some (r1, r2) := h
  clear h
  have H' := Aside0.mk H
  clear H
  go_enter Tryd.func11, Tryd.ntmps11
  go_wp2
  go_loopg [4, 5] k (fun kq v4 v5 w' => ∃ (x4_1 : Int) (x5_1 : Int), v4 = .int .i64 x4_1 ∧ v5 = .int .i64 x5_1 ∧ Aside0 (archivistref02_Add.l0 kq l0 x4_1 x5_1 = some (r1, r2)) ∧ Aside0 (kq ≤ k) ∧ Drawn0 w w')
  case atStart => exact ⟨(0), (0), (by first | rfl | (simp; done) | (simp [*]; done)), (by first | rfl | (simp; done) | (simp [*]; done)), H', ⟨Nat.le_refl _⟩, by repeat (first | exact Drawn0.refl _ | apply Drawn0.step)⟩
  case round =>
    clear H'
    try clear c1
    obtain ⟨x4_1, x5_1, rfl, rfl, HA, HK1, ⟨m1, rfl⟩⟩ := hrel
    cases gk with
    | zero => exact absurd HA.out (by simp [archivistref02_Add.l0])
    | succ k1 =>
      have H := HA.out
      clear HA
      simp only [archivistref02_Add.l0] at H
      by_cases c2 : x5_1 < (l0.length : Int)
      · rw [if_pos c2] at H
        have c2b0 : decide (x5_1 < (l0.length : Int)) = true := decide_eq_true c2
        clear c2
        by_cases c3 : 0 ≤ x5_1
        · rw [if_pos c3] at H
          have c3b0 : decide (0 ≤ x5_1) = true := decide_eq_true c3
          clear c3
          replace H := Option.bind_eq_some_iff.mp H
          obtain ⟨⟨t159, t160⟩, A40, H⟩ := H
          replace H : (if t160 = true then (archivistref02_Add.l0 k1 l0 t159 (wrap64 (x5_1 + 1))) else (some (0, false))) = some (r1, r2) := H
          have A4 := Aside0.mk A40
          clear A40
          by_cases c5 : t160 = true
          · subst c5
            have H1 : (archivistref02_Add.l0 k1 l0 t159 (wrap64 (x5_1 + 1))) = some (r1, r2) := by rw [if_pos rfl] at H; exact H
            clear H
            have H := H1
            clear H1
            have H' := Aside0.mk H
            clear H
            have p158 : 0 ≤ (x5_1 : Int) := of_decide_eq_true (by first | (with_reducible assumption) | assumption)
            have q158 : x5_1 < (l0.length : Int) := of_decide_eq_true (by first | (with_reducible assumption) | assumption)
            obtain ⟨ad158, e158, hx158_0⟩ := Kd.at_int HR0.out x5_1 p158 q158
            cases e158
            replace p158 := eq_true p158
            replace q158 := eq_true q158
            go_wp2_with (first | ((with_reducible refine gate_callee (f := 24) rfl ?_); refine goesL_ (some 20) rfl rfl Tryd.func24 (by kernel_rfl) rfl #[.int .i64 x4_1, .int .i64 (rd l0 x5_1)] rfl (by (try simp only [List.map_toArray, List.map_cons, List.map_nil]); first | done | rfl | (simp only [List.length_drop, List.length_take]; rfl)) ?_; (with_reducible refine (archivistref02_Sum.calls x4_1 (rd l0 x5_1) t159 true _ A4.out).mono ?_); rintro e w' ⟨rfl, ⟨nd, rfl⟩⟩; refine ⟨_, rfl, ?_⟩))
            go_roundg k1
            case measure => have := HK1.out; omega
            case rel => exact ⟨(t159), (wrap64 (x5_1 + 1)), (by first | rfl | (simp; done) | (simp [*]; done)), (by first | rfl | (simp; done) | (simp [*]; done)), H', ⟨by have := HK1.out; omega⟩, by repeat (first | exact Drawn0.refl _ | apply Drawn0.step)⟩
          · replace c5 := Bool.eq_false_iff.mpr c5
            subst c5
            have H1 : (some (0, false)) = some (r1, r2) := by rw [if_neg (show ¬ (false = true) by decide)] at H; exact H
            clear H
            have H := H1
            clear H1
            simp only [Option.some.injEq, Prod.mk.injEq] at H
            obtain ⟨rfl, rfl⟩ := H
            have p158 : 0 ≤ (x5_1 : Int) := of_decide_eq_true (by first | (with_reducible assumption) | assumption)
            have q158 : x5_1 < (l0.length : Int) := of_decide_eq_true (by first | (with_reducible assumption) | assumption)
            obtain ⟨ad158, e158, hx158_0⟩ := Kd.at_int HR0.out x5_1 p158 q158
            cases e158
            replace p158 := eq_true p158
            replace q158 := eq_true q158
            go_wp2_with (first | ((with_reducible refine gate_callee (f := 24) rfl ?_); refine goesL_ (some 20) rfl rfl Tryd.func24 (by kernel_rfl) rfl #[.int .i64 x4_1, .int .i64 (rd l0 x5_1)] rfl (by (try simp only [List.map_toArray, List.map_cons, List.map_nil]); first | done | rfl | (simp only [List.length_drop, List.length_take]; rfl)) ?_; (with_reducible refine (archivistref02_Sum.calls x4_1 (rd l0 x5_1) t159 false _ A4.out).mono ?_); rintro e w' ⟨rfl, ⟨nd, rfl⟩⟩; refine ⟨_, rfl, ?_⟩))
            go_ret2
            exact ⟨by first | rfl | (simp; done) | (simp [*]; done), by repeat (first | exact Drawn0.refl _ | apply Drawn0.step)⟩
        · rw [if_neg c3] at H
          exact absurd H (by simp)
      · rw [if_neg c2] at H
        have c2b0 : decide (x5_1 < (l0.length : Int)) = false := decide_eq_false c2
        clear c2
        simp only [Option.some.injEq, Prod.mk.injEq] at H
        obtain ⟨rfl, rfl⟩ := H
        go_wp2
        go_ret2
        exact ⟨by first | rfl | (simp; done) | (simp [*]; done), by repeat (first | exact Drawn0.refl _ | apply Drawn0.step)⟩

/-! ### archivistref02_size: function 27 -/
def archivistref02_size.f (a0 : Int) : Option (Int) := if a0 < 0 then (some (IntKind.u64.wrap (-(IntKind.u64.wrap (a0))))) else (some (IntKind.u64.wrap (a0)))
set_option maxHeartbeats 8000000 in
set_option maxRecDepth 100000 in
theorem archivistref02_size.calls (a0 : Int) (r : Int) (w : World) (h : archivistref02_size.f a0 = some r) :
    Calls Tryd.prog 27 #[.int .i64 a0] w fun e w' => e = .returned (.int .u64 r) ∧ Drawn0 w w' := by
  have H : (if a0 < 0 then (some (IntKind.u64.wrap (-(IntKind.u64.wrap (a0))))) else (some (IntKind.u64.wrap (a0)))) = some r := h
  clear h
  by_cases c2 : a0 < 0
  · rw [if_pos c2] at H
    have c2b0 : decide (a0 < 0) = true := decide_eq_true c2
    clear c2
    obtain rfl := Option.some.inj H
    go_enter Tryd.func27, Tryd.ntmps27
    go_wp2
    go_ret
    exact ⟨by first | rfl | (simp; done) | (simp [*]; done), by repeat (first | exact Drawn0.refl _ | apply Drawn0.step)⟩
  · rw [if_neg c2] at H
    have c2b0 : decide (a0 < 0) = false := decide_eq_false c2
    clear c2
    obtain rfl := Option.some.inj H
    go_enter Tryd.func27, Tryd.ntmps27
    go_wp2
    go_ret
    exact ⟨by first | rfl | (simp; done) | (simp [*]; done), by repeat (first | exact Drawn0.refl _ | apply Drawn0.step)⟩

end Go.Proofs.YtdnicaponolmmaaDoor.X
