-- Laid by xprint.py, a program of this session's, out of the translation.
import Derived.Test.YtjmbddgbojcpmaaDoorX0
import Derived.Test.YtjmbddgbojcpmaaDoorX6
namespace Go.Proofs.YtjmbddgbojcpmaaDoor.X
open Go.RowKit Go.Proofs.YtjmbddgbojcpmaaDoorW.PrintWords Go.Proofs.YtjmbddgbojcpmaaDoorW.PrintLast Go.Proofs.YtjmbddgbojcpmaaDoorW.PrintMore
attribute [local go_sem] max2_int min2_int max_two min_two max_three min_three max_four min_four x_isSome x_str_gtr x_str_leq x_str_geq   -- for this text's walks alone
set_option linter.unusedVariables false
set_option linter.unusedSimpArgs false

/-! ### quote_escaped: function 41 -/
mutual
def quote_escaped.j0 : Nat → ByteArray → Int → Bool → Option (Int × Int)
 | 0, _, _, _ => none
 | k + 1, x0, x10, x11 => if x11 = true then (if 0 < (x0.size : Int) then (some (bt x0 0, 1)) else (none)) else (if x10 = 110 then (some (10, 1)) else (if x10 = 116 then (some (9, 1)) else (if (x0.size : Int) < 3 then (quote_escaped.j1 k x0 true) else (if 0 < (x0.size : Int) then (quote_escaped.j1 k x0 ((bt x0 0) != 120)) else (none)))))
def quote_escaped.j1 : Nat → ByteArray → Bool → Option (Int × Int)
 | 0, _, _ => none
 | k + 1, x0, x27 => if x27 = true then (some (0, 0)) else (if 1 < (x0.size : Int) then ((strings_IndexByte.f (⟨#[48, 49, 50, 51, 52, 53, 54, 55, 56, 57, 97, 98, 99, 100, 101, 102]⟩ : ByteArray) (bt x0 1)).bind fun t177 => (if 2 < (x0.size : Int) then ((strings_IndexByte.f (⟨#[48, 49, 50, 51, 52, 53, 54, 55, 56, 57, 97, 98, 99, 100, 101, 102]⟩ : ByteArray) (bt x0 2)).bind fun t178 => (if t177 < 0 then (some (0, 0)) else (if t178 < 0 then (some (0, 0)) else (if ((Go.bits .or .i64 (wrap64 (t177 * 16)) t178) % 256) ≥ 32 then (if ((Go.bits .or .i64 (wrap64 (t177 * 16)) t178) % 256) ≤ 126 then (some (0, 0)) else (if ((Go.bits .or .i64 (wrap64 (t177 * 16)) t178) % 256) = 10 then (some (0, 0)) else (if ((Go.bits .or .i64 (wrap64 (t177 * 16)) t178) % 256) = 9 then (some (0, 0)) else (some ((Go.bits .or .i64 (wrap64 (t177 * 16)) t178) % 256, 3))))) else (if ((Go.bits .or .i64 (wrap64 (t177 * 16)) t178) % 256) = 10 then (some (0, 0)) else (if ((Go.bits .or .i64 (wrap64 (t177 * 16)) t178) % 256) = 9 then (some (0, 0)) else (some ((Go.bits .or .i64 (wrap64 (t177 * 16)) t178) % 256, 3)))))))) else (none))) else (none))
end
def quote_escaped.f (k : Nat) (a0 : ByteArray) : Option (Int × Int) := if a0.toList = ([] : List UInt8) then (some (0, 0)) else (if 0 < (a0.size : Int) then (if (bt a0 0) = 34 then (quote_escaped.j0 k a0 (bt a0 0) ((bt a0 0) == 34)) else (quote_escaped.j0 k a0 (bt a0 0) ((bt a0 0) == 92))) else (none))
theorem quote_escaped.mono_l : ∀ k, (∀ y0 y1 y2, LeO (quote_escaped.j0 k y0 y1 y2) (quote_escaped.j0 (k + 1) y0 y1 y2)) ∧ (∀ y0 y1, LeO (quote_escaped.j1 k y0 y1) (quote_escaped.j1 (k + 1) y0 y1))
 | 0 => ⟨fun _ _ _ r h => by simp [quote_escaped.j0] at h, fun _ _ r h => by simp [quote_escaped.j1] at h⟩
 | k + 1 => by
  obtain ⟨ih0, ih1⟩ := quote_escaped.mono_l k
  refine ⟨?_, ?_⟩
  ·intro y0 y1 y2
   unfold quote_escaped.j0
   repeat' first
   | (with_reducible exact ih0 _ _ _)
   | (with_reducible exact ih1 _ _)
   | (with_reducible exact LeO.refl _)
   | (with_reducible exact LeO.none _)
   | (with_reducible refine LeO.ite ?_ ?_)
   | (with_reducible refine LeO.bind ?_ (fun _ => ?_))
   | exact ih0 _ _ _
   | exact ih1 _ _
   | exact LeO.none _
   | refine LeO.ite ?_ ?_
   | refine LeO.bind ?_ (fun _ => ?_)
  ·intro y0 y1
   unfold quote_escaped.j1
   repeat' first
   | (with_reducible exact ih0 _ _ _)
   | (with_reducible exact ih1 _ _)
   | (with_reducible exact LeO.refl _)
   | (with_reducible exact LeO.none _)
   | (with_reducible refine LeO.ite ?_ ?_)
   | (with_reducible refine LeO.bind ?_ (fun _ => ?_))
   | exact ih0 _ _ _
   | exact ih1 _ _
   | exact LeO.none _
   | refine LeO.ite ?_ ?_
   | refine LeO.bind ?_ (fun _ => ?_)
theorem quote_escaped.mono : ∀ a0 k, LeO (quote_escaped.f k a0) (quote_escaped.f (k + 1) a0) := by
 intro a0 k
 obtain ⟨ih0, ih1⟩ := quote_escaped.mono_l k
 unfold quote_escaped.f
 repeat' first
   | (with_reducible exact ih0 _ _ _)
   | (with_reducible exact ih1 _ _)
   | (with_reducible exact LeO.refl _)
   | (with_reducible exact LeO.none _)
   | (with_reducible refine LeO.ite ?_ ?_)
   | (with_reducible refine LeO.bind ?_ (fun _ => ?_))
   | exact ih0 _ _ _
   | exact ih1 _ _
   | exact LeO.none _
   | refine LeO.ite ?_ ?_
   | refine LeO.bind ?_ (fun _ => ?_)
set_option maxHeartbeats 8000000 in
set_option maxRecDepth 100000 in
theorem quote_escaped.calls (k : Nat) (a0 : ByteArray) (r1 : Int) (r2 : Int) (w : World) (h : quote_escaped.f k a0 = some (r1, r2)) :
  Calls Tryd.prog 41 #[.string a0] w fun e w' => e = .returned (.tuple #[.int .u8 r1, .int .i64 r2]) ∧ Drawn0 w w' := by
 have H : (if a0.toList = ([] : List UInt8) then (some (0, 0)) else (if 0 < (a0.size : Int) then (if (bt a0 0) = 34 then (quote_escaped.j0 k a0 (bt a0 0) ((bt a0 0) == 34)) else (quote_escaped.j0 k a0 (bt a0 0) ((bt a0 0) == 92))) else (none))) = some (r1, r2) := h
 clear h
 by_cases c2 : a0.toList = ([] : List UInt8)
 ·rw [if_pos c2] at H
  have c2b0 : (a0.toList == ([] : List UInt8)) = true := beq_iff_eq.mpr c2
  have c2b1 : (a0.toList != ([] : List UInt8)) = false := bne_eq_false_iff_eq.mpr c2
  clear c2
  simp only [Option.some.injEq, Prod.mk.injEq] at H
  obtain ⟨rfl, rfl⟩ := H
  go_enter Tryd.func41, Tryd.ntmps41
  go_wp2
  repeat (go_quiet (fail); try go_wp2)
  go_ret2
  exact ⟨rs, dr⟩
 ·rw [if_neg c2] at H
  have c2b0 : (a0.toList == ([] : List UInt8)) = false := beq_eq_false_iff_ne.mpr c2
  have c2b1 : (a0.toList != ([] : List UInt8)) = true := bne_iff_ne.mpr c2
  by_cases c3 : 0 < (a0.size : Int)
  ·rw [if_pos c3] at H
   have c3b0 := decide_eq_true c3
   have c3b1 : decide (0 < a0.size) = true := decide_eq_true (by omega)
   clear c3
   have HC5 := Aside0.mk H
   clear H
   have p4 : 0 ≤ (0 : Int) := (by omega)
   have q4 : 0 < a0.size := (by have : (0 : Int) < (a0.size : Int) := od; omega)
   have hx4 : ∀ h : 0 < a0.size, ((a0[0]'h).toNat : Int) = bt a0 0 := bt_at a0 0
   clear p4
   have qi4 : (0 < (a0.size : Int)) = True := eq_true (od)
   replace q4 := eq_true q4
   go_enter Tryd.func41, Tryd.ntmps41
   go_upto_if 11 with (fail)
   repeat (go_quiet (fail); go_upto_if 11 with (fail))
   go_cut [11] (fun v11 wc => ∃ (kq : Nat) (x11_4 : Bool), v11 = .bool x11_4 ∧ Aside0 (quote_escaped.j0 kq a0 (bt a0 0) x11_4 = some (r1, r2)) ∧ Aside0 (kq ≤ k) ∧ Drawn0 w wc)
   case first =>
    have H := HC5.out
    clear HC5
    by_cases c6 : (bt a0 0) = 34
    ·rw [if_pos c6] at H
     have c6b0 : ((bt a0 0) == 34) = true := beq_iff_eq.mpr c6
     have c6b1 : ((bt a0 0) != 34) = false := bne_eq_false_iff_eq.mpr c6
     clear c6
     (first | rw [c6b0] | (simp only [i64_w, i32_w]; rw [c6b0]) | skip)
     have H' := Aside0.mk H
     clear H
     go_wp2
     repeat (go_quiet (fail); try go_wp2)
     go_meet
     case rel => exact ⟨_, (((bt a0 0) == 34)), rs, H', ⟨by first | omega | exact Nat.le_refl _⟩, by repeat (first | exact Drawn0.refl _ | apply Drawn0.step)⟩
    ·rw [if_neg c6] at H
     have c6b0 : ((bt a0 0) == 34) = false := beq_eq_false_iff_ne.mpr c6
     have c6b1 : ((bt a0 0) != 34) = true := bne_iff_ne.mpr c6
     (first | rw [c6b0] | (simp only [i64_w, i32_w]; rw [c6b0]) | skip)
     have H' := Aside0.mk H
     clear H
     go_wp2
     repeat (go_quiet (fail); try go_wp2)
     go_meet
     case rel => exact ⟨_, (((bt a0 0) == 92)), rs, H', ⟨by first | omega | exact Nat.le_refl _⟩, by repeat (first | exact Drawn0.refl _ | apply Drawn0.step)⟩
   case rest =>
    clear HC5
    try clear c2
    try clear c2b0
    try clear c2b1
    try clear p2
    try clear c3
    try clear c3b0
    try clear c3b1
    try clear c4
    try clear p4
    try clear q4
    try clear hx4
    try clear qi4
    try clear c6
    try clear c6b0
    try clear c6b1
    try clear p4
    try clear q4
    obtain ⟨kq, x11_4, rfl, HA, HJ4, ⟨mc4, rfl⟩⟩ := hcut
    cases kq with
    | zero => exact absurd HA.out (by simp [quote_escaped.j0])
    | succ kj4 =>
     have H := HA.out
     clear HA
     simp only [quote_escaped.j0] at H
     by_cases c7 : x11_4 = true
     ·subst c7
      have H1 : (if 0 < (a0.size : Int) then (some (bt a0 0, 1)) else (none)) = some (r1, r2) := by rw [if_pos rfl] at H; exact H
      clear H
      have H := H1
      clear H1
      by_cases c8 : 0 < (a0.size : Int)
      ·rw [if_pos c8] at H
       have c8b0 := decide_eq_true c8
       have c8b1 : decide (0 < a0.size) = true := decide_eq_true (by omega)
       clear c8
       simp only [Option.some.injEq, Prod.mk.injEq] at H
       obtain ⟨rfl, rfl⟩ := H
       have p9 : 0 ≤ (0 : Int) := (by omega)
       have q9 : 0 < a0.size := (by have : (0 : Int) < (a0.size : Int) := od; omega)
       have hx9 : ∀ h : 0 < a0.size, ((a0[0]'h).toNat : Int) = bt a0 0 := bt_at a0 0
       clear p9
       have qi9 : (0 < (a0.size : Int)) = True := eq_true (od)
       replace q9 := eq_true q9
       go_wp2
       repeat (go_quiet (fail); try go_wp2)
       go_ret2
       exact ⟨rs, dr⟩
      ·rw [if_neg c8] at H
       exact absurd H (by simp)
     ·replace c7 := Bool.eq_false_iff.mpr c7
      subst c7
      have H1 : (if (bt a0 0) = 110 then (some (10, 1)) else (if (bt a0 0) = 116 then (some (9, 1)) else (if (a0.size : Int) < 3 then (quote_escaped.j1 kj4 a0 true) else (if 0 < (a0.size : Int) then (quote_escaped.j1 kj4 a0 ((bt a0 0) != 120)) else (none))))) = some (r1, r2) := by rw [if_neg (show ¬ (false = true) by decide)] at H; exact H
      clear H
      have H := H1
      clear H1
      by_cases c10 : (bt a0 0) = 110
      ·rw [if_pos c10] at H
       have c10b0 : ((bt a0 0) == 110) = true := beq_iff_eq.mpr c10
       have c10b1 : ((bt a0 0) != 110) = false := bne_eq_false_iff_eq.mpr c10
       clear c10
       simp only [Option.some.injEq, Prod.mk.injEq] at H
       obtain ⟨rfl, rfl⟩ := H
       go_wp2
       repeat (go_quiet (fail); try go_wp2)
       go_ret2
       exact ⟨rs, dr⟩
      ·rw [if_neg c10] at H
       have c10b0 : ((bt a0 0) == 110) = false := beq_eq_false_iff_ne.mpr c10
       have c10b1 : ((bt a0 0) != 110) = true := bne_iff_ne.mpr c10
       by_cases c11 : (bt a0 0) = 116
       ·rw [if_pos c11] at H
        have c11b0 : ((bt a0 0) == 116) = true := beq_iff_eq.mpr c11
        have c11b1 : ((bt a0 0) != 116) = false := bne_eq_false_iff_eq.mpr c11
        clear c11
        simp only [Option.some.injEq, Prod.mk.injEq] at H
        obtain ⟨rfl, rfl⟩ := H
        go_wp2
        repeat (go_quiet (fail); try go_wp2)
        go_ret2
        exact ⟨rs, dr⟩
       ·rw [if_neg c11] at H
        have c11b0 : ((bt a0 0) == 116) = false := beq_eq_false_iff_ne.mpr c11
        have c11b1 : ((bt a0 0) != 116) = true := bne_iff_ne.mpr c11
        have HC12 := Aside0.mk H
        clear H
        go_upto_region 11 with (fail)
        repeat (go_quiet (fail); go_upto_region 11 with (fail))
        go_cut [27] (fun v27 wc => ∃ (kq : Nat) (x27_11 : Bool), v27 = .bool x27_11 ∧ Aside0 (quote_escaped.j1 kq a0 x27_11 = some (r1, r2)) ∧ Aside0 (kq ≤ kj4) ∧ Drawn0 w wc)
        case first =>
         have H := HC12.out
         clear HC12
         by_cases c13 : (a0.size : Int) < 3
         ·rw [if_pos c13] at H
          have c13b0 := decide_eq_true c13
          have c13b1 : decide (a0.size < 3) = true := decide_eq_true (by omega)
          clear c13
          (first | rw [c13b0] | (simp only [i64_w, i32_w]; rw [c13b0]) | skip)
          have H' := Aside0.mk H
          clear H
          go_wp2
          repeat (go_quiet (fail); try go_wp2)
          go_meet
          case rel => exact ⟨_, (true), rs, H', ⟨by have := HJ4.out; first | omega | exact Nat.le_refl _⟩, by repeat (first | exact Drawn0.refl _ | apply Drawn0.step)⟩
         ·rw [if_neg c13] at H
          have c13b0 : decide ((a0.size : Int) < 3) = false := decide_eq_false c13
          have c13b1 : decide (a0.size < 3) = false := decide_eq_false (by omega)
          clear c13
          (first | rw [c13b0] | (simp only [i64_w, i32_w]; rw [c13b0]) | skip)
          by_cases c14 : 0 < (a0.size : Int)
          ·rw [if_pos c14] at H
           have c14b0 := decide_eq_true c14
           have c14b1 : decide (0 < a0.size) = true := decide_eq_true (by omega)
           clear c14
           have H' := Aside0.mk H
           clear H
           have p15 : 0 ≤ (0 : Int) := (by omega)
           have q15 : 0 < a0.size := (by have : (0 : Int) < (a0.size : Int) := od; omega)
           have hx15 : ∀ h : 0 < a0.size, ((a0[0]'h).toNat : Int) = bt a0 0 := bt_at a0 0
           clear p15
           have qi15 : (0 < (a0.size : Int)) = True := eq_true (od)
           replace q15 := eq_true q15
           go_wp2
           repeat (go_quiet (fail); try go_wp2)
           go_meet
           case rel => exact ⟨_, (((bt a0 0) != 120)), rs, H', ⟨by have := HJ4.out; first | omega | exact Nat.le_refl _⟩, by repeat (first | exact Drawn0.refl _ | apply Drawn0.step)⟩
          ·rw [if_neg c14] at H
           exact absurd H (by simp)
        case rest =>
         clear HC12
         try clear c1
         try clear p1
         try clear q1
         try clear hx1
         try clear qi1
         try clear c2
         try clear c2b0
         try clear c2b1
         try clear p2
         try clear c3
         try clear c3b0
         try clear c3b1
         try clear c4
         try clear p4
         try clear q4
         try clear hx4
         try clear qi4
         try clear c6
         try clear c6b0
         try clear c6b1
         try clear c7
         try clear c8
         try clear c8b0
         try clear c8b1
         try clear p9
         try clear q9
         try clear hx9
         try clear qi9
         try clear c10
         try clear c10b0
         try clear c10b1
         try clear c11
         try clear c11b0
         try clear c11b1
         try clear c13
         try clear c13b0
         try clear c13b1
         try clear c14
         try clear c14b0
         try clear c14b1
         try clear p15
         try clear q15
         try clear hx15
         try clear qi15
         try clear p15
         try clear p2
         try clear p4
         try clear p9
         try clear q15
         try clear q4
         try clear q9
         obtain ⟨kq, x27_11, rfl, HA, HJ11, ⟨mc11, rfl⟩⟩ := hcut
         cases kq with
         | zero => exact absurd HA.out (by simp [quote_escaped.j1])
         | succ kj11 =>
          have H := HA.out
          clear HA
          simp only [quote_escaped.j1] at H
          by_cases c16 : x27_11 = true
          ·subst c16
           have H1 : (some (0, 0)) = some (r1, r2) := by rw [if_pos rfl] at H; exact H
           clear H
           have H := H1
           clear H1
           simp only [Option.some.injEq, Prod.mk.injEq] at H
           obtain ⟨rfl, rfl⟩ := H
           go_wp2
           repeat (go_quiet (fail); try go_wp2)
           go_ret2
           exact ⟨rs, dr⟩
          ·replace c16 := Bool.eq_false_iff.mpr c16
           subst c16
           have H1 : (if 1 < (a0.size : Int) then ((strings_IndexByte.f (⟨#[48, 49, 50, 51, 52, 53, 54, 55, 56, 57, 97, 98, 99, 100, 101, 102]⟩ : ByteArray) (bt a0 1)).bind fun t177 => (if 2 < (a0.size : Int) then ((strings_IndexByte.f (⟨#[48, 49, 50, 51, 52, 53, 54, 55, 56, 57, 97, 98, 99, 100, 101, 102]⟩ : ByteArray) (bt a0 2)).bind fun t178 => (if t177 < 0 then (some (0, 0)) else (if t178 < 0 then (some (0, 0)) else (if ((Go.bits .or .i64 (wrap64 (t177 * 16)) t178) % 256) ≥ 32 then (if ((Go.bits .or .i64 (wrap64 (t177 * 16)) t178) % 256) ≤ 126 then (some (0, 0)) else (if ((Go.bits .or .i64 (wrap64 (t177 * 16)) t178) % 256) = 10 then (some (0, 0)) else (if ((Go.bits .or .i64 (wrap64 (t177 * 16)) t178) % 256) = 9 then (some (0, 0)) else (some ((Go.bits .or .i64 (wrap64 (t177 * 16)) t178) % 256, 3))))) else (if ((Go.bits .or .i64 (wrap64 (t177 * 16)) t178) % 256) = 10 then (some (0, 0)) else (if ((Go.bits .or .i64 (wrap64 (t177 * 16)) t178) % 256) = 9 then (some (0, 0)) else (some ((Go.bits .or .i64 (wrap64 (t177 * 16)) t178) % 256, 3)))))))) else (none))) else (none)) = some (r1, r2) := by rw [if_neg (show ¬ (false = true) by decide)] at H; exact H
           clear H
           have H := H1
           clear H1
           by_cases c17 : 1 < (a0.size : Int)
           ·rw [if_pos c17] at H
            have c17b0 := decide_eq_true c17
            have c17b1 : decide (1 < a0.size) = true := decide_eq_true (by omega)
            clear c17
            replace H := Option.bind_eq_some_iff.mp H
            obtain ⟨t177, A190, H⟩ := H
            replace H : (if 2 < (a0.size : Int) then ((strings_IndexByte.f (⟨#[48, 49, 50, 51, 52, 53, 54, 55, 56, 57, 97, 98, 99, 100, 101, 102]⟩ : ByteArray) (bt a0 2)).bind fun t178 => (if t177 < 0 then (some (0, 0)) else (if t178 < 0 then (some (0, 0)) else (if ((Go.bits .or .i64 (wrap64 (t177 * 16)) t178) % 256) ≥ 32 then (if ((Go.bits .or .i64 (wrap64 (t177 * 16)) t178) % 256) ≤ 126 then (some (0, 0)) else (if ((Go.bits .or .i64 (wrap64 (t177 * 16)) t178) % 256) = 10 then (some (0, 0)) else (if ((Go.bits .or .i64 (wrap64 (t177 * 16)) t178) % 256) = 9 then (some (0, 0)) else (some ((Go.bits .or .i64 (wrap64 (t177 * 16)) t178) % 256, 3))))) else (if ((Go.bits .or .i64 (wrap64 (t177 * 16)) t178) % 256) = 10 then (some (0, 0)) else (if ((Go.bits .or .i64 (wrap64 (t177 * 16)) t178) % 256) = 9 then (some (0, 0)) else (some ((Go.bits .or .i64 (wrap64 (t177 * 16)) t178) % 256, 3)))))))) else (none)) = some (r1, r2) := H
            have A19 := Aside0.mk A190
            clear A190
            by_cases c20 : 2 < (a0.size : Int)
            ·rw [if_pos c20] at H
             have c20b0 := decide_eq_true c20
             have c20b1 : decide (2 < a0.size) = true := decide_eq_true (by omega)
             clear c20
             replace H := Option.bind_eq_some_iff.mp H
             obtain ⟨t178, A220, H⟩ := H
             replace H : (if t177 < 0 then (some (0, 0)) else (if t178 < 0 then (some (0, 0)) else (if ((Go.bits .or .i64 (wrap64 (t177 * 16)) t178) % 256) ≥ 32 then (if ((Go.bits .or .i64 (wrap64 (t177 * 16)) t178) % 256) ≤ 126 then (some (0, 0)) else (if ((Go.bits .or .i64 (wrap64 (t177 * 16)) t178) % 256) = 10 then (some (0, 0)) else (if ((Go.bits .or .i64 (wrap64 (t177 * 16)) t178) % 256) = 9 then (some (0, 0)) else (some ((Go.bits .or .i64 (wrap64 (t177 * 16)) t178) % 256, 3))))) else (if ((Go.bits .or .i64 (wrap64 (t177 * 16)) t178) % 256) = 10 then (some (0, 0)) else (if ((Go.bits .or .i64 (wrap64 (t177 * 16)) t178) % 256) = 9 then (some (0, 0)) else (some ((Go.bits .or .i64 (wrap64 (t177 * 16)) t178) % 256, 3))))))) = some (r1, r2) := H
             have A22 := Aside0.mk A220
             clear A220
             by_cases c23 : t177 < 0
             ·rw [if_pos c23] at H
              have c23b0 := decide_eq_true c23
              clear c23
              simp only [Option.some.injEq, Prod.mk.injEq] at H
              obtain ⟨rfl, rfl⟩ := H
              have p18 : 0 ≤ (1 : Int) := (by omega)
              have q18 : 1 < a0.size := (by have : (1 : Int) < (a0.size : Int) := od; omega)
              have hx18 : ∀ h : 1 < a0.size, ((a0[1]'h).toNat : Int) = bt a0 1 := bt_at a0 1
              clear p18
              have qi18 : (1 < (a0.size : Int)) = True := eq_true (od)
              replace q18 := eq_true q18
              go_wp2_with (first | (go_at_call 58; (with_reducible refine (strings_IndexByte.calls _ _ _ _ A19.out).mono ?_); rintro e w' ⟨rfl, ⟨nd, rfl⟩⟩; (try exact dw); have p21 : 0 ≤ (2 : Int) := (by omega); have q21 : 2 < a0.size := (by have : (2 : Int) < (a0.size : Int) := od; omega); have hx21 : ∀ h : 2 < a0.size, ((a0[2]'h).toNat : Int) = bt a0 2 := bt_at a0 2; clear p21; have qi21 : (2 < (a0.size : Int)) = True := eq_true (od); replace q21 := eq_true q21) | (go_at_call 58; (with_reducible refine (strings_IndexByte.calls _ _ _ _ A22.out).mono ?_); rintro e w' ⟨rfl, ⟨nd, rfl⟩⟩; (try exact dw)))
              repeat (go_quiet (first | (go_at_call 58; (with_reducible refine (strings_IndexByte.calls _ _ _ _ A19.out).mono ?_); rintro e w' ⟨rfl, ⟨nd, rfl⟩⟩; (try exact dw); have p21 : 0 ≤ (2 : Int) := (by omega); have q21 : 2 < a0.size := (by have : (2 : Int) < (a0.size : Int) := od; omega); have hx21 : ∀ h : 2 < a0.size, ((a0[2]'h).toNat : Int) = bt a0 2 := bt_at a0 2; clear p21; have qi21 : (2 < (a0.size : Int)) = True := eq_true (od); replace q21 := eq_true q21) | (go_at_call 58; (with_reducible refine (strings_IndexByte.calls _ _ _ _ A22.out).mono ?_); rintro e w' ⟨rfl, ⟨nd, rfl⟩⟩; (try exact dw))); try go_wp2_with (first | (go_at_call 58; (with_reducible refine (strings_IndexByte.calls _ _ _ _ A19.out).mono ?_); rintro e w' ⟨rfl, ⟨nd, rfl⟩⟩; (try exact dw); have p21 : 0 ≤ (2 : Int) := (by omega); have q21 : 2 < a0.size := (by have : (2 : Int) < (a0.size : Int) := od; omega); have hx21 : ∀ h : 2 < a0.size, ((a0[2]'h).toNat : Int) = bt a0 2 := bt_at a0 2; clear p21; have qi21 : (2 < (a0.size : Int)) = True := eq_true (od); replace q21 := eq_true q21) | (go_at_call 58; (with_reducible refine (strings_IndexByte.calls _ _ _ _ A22.out).mono ?_); rintro e w' ⟨rfl, ⟨nd, rfl⟩⟩; (try exact dw))))
              go_ret2
              exact ⟨rs, dr⟩
             ·rw [if_neg c23] at H
              have c23b0 : decide (t177 < 0) = false := decide_eq_false c23
              clear c23
              by_cases c24 : t178 < 0
              ·rw [if_pos c24] at H
               have c24b0 := decide_eq_true c24
               clear c24
               simp only [Option.some.injEq, Prod.mk.injEq] at H
               obtain ⟨rfl, rfl⟩ := H
               have p18 : 0 ≤ (1 : Int) := (by omega)
               have q18 : 1 < a0.size := (by have : (1 : Int) < (a0.size : Int) := od; omega)
               have hx18 : ∀ h : 1 < a0.size, ((a0[1]'h).toNat : Int) = bt a0 1 := bt_at a0 1
               clear p18
               have qi18 : (1 < (a0.size : Int)) = True := eq_true (od)
               replace q18 := eq_true q18
               go_wp2_with (first | (go_at_call 58; (with_reducible refine (strings_IndexByte.calls _ _ _ _ A19.out).mono ?_); rintro e w' ⟨rfl, ⟨nd, rfl⟩⟩; (try exact dw); have p21 : 0 ≤ (2 : Int) := (by omega); have q21 : 2 < a0.size := (by have : (2 : Int) < (a0.size : Int) := od; omega); have hx21 : ∀ h : 2 < a0.size, ((a0[2]'h).toNat : Int) = bt a0 2 := bt_at a0 2; clear p21; have qi21 : (2 < (a0.size : Int)) = True := eq_true (od); replace q21 := eq_true q21) | (go_at_call 58; (with_reducible refine (strings_IndexByte.calls _ _ _ _ A22.out).mono ?_); rintro e w' ⟨rfl, ⟨nd, rfl⟩⟩; (try exact dw)))
               repeat (go_quiet (first | (go_at_call 58; (with_reducible refine (strings_IndexByte.calls _ _ _ _ A19.out).mono ?_); rintro e w' ⟨rfl, ⟨nd, rfl⟩⟩; (try exact dw); have p21 : 0 ≤ (2 : Int) := (by omega); have q21 : 2 < a0.size := (by have : (2 : Int) < (a0.size : Int) := od; omega); have hx21 : ∀ h : 2 < a0.size, ((a0[2]'h).toNat : Int) = bt a0 2 := bt_at a0 2; clear p21; have qi21 : (2 < (a0.size : Int)) = True := eq_true (od); replace q21 := eq_true q21) | (go_at_call 58; (with_reducible refine (strings_IndexByte.calls _ _ _ _ A22.out).mono ?_); rintro e w' ⟨rfl, ⟨nd, rfl⟩⟩; (try exact dw))); try go_wp2_with (first | (go_at_call 58; (with_reducible refine (strings_IndexByte.calls _ _ _ _ A19.out).mono ?_); rintro e w' ⟨rfl, ⟨nd, rfl⟩⟩; (try exact dw); have p21 : 0 ≤ (2 : Int) := (by omega); have q21 : 2 < a0.size := (by have : (2 : Int) < (a0.size : Int) := od; omega); have hx21 : ∀ h : 2 < a0.size, ((a0[2]'h).toNat : Int) = bt a0 2 := bt_at a0 2; clear p21; have qi21 : (2 < (a0.size : Int)) = True := eq_true (od); replace q21 := eq_true q21) | (go_at_call 58; (with_reducible refine (strings_IndexByte.calls _ _ _ _ A22.out).mono ?_); rintro e w' ⟨rfl, ⟨nd, rfl⟩⟩; (try exact dw))))
               go_ret2
               exact ⟨rs, dr⟩
              ·rw [if_neg c24] at H
               have c24b0 : decide (t178 < 0) = false := decide_eq_false c24
               clear c24
               by_cases c25 : ((Go.bits .or .i64 (wrap64 (t177 * 16)) t178) % 256) ≥ 32
               ·rw [if_pos c25] at H
                have c25b0 := decide_eq_true c25
                clear c25
                by_cases c26 : ((Go.bits .or .i64 (wrap64 (t177 * 16)) t178) % 256) ≤ 126
                ·rw [if_pos c26] at H
                 have c26b0 := decide_eq_true c26
                 clear c26
                 simp only [Option.some.injEq, Prod.mk.injEq] at H
                 obtain ⟨rfl, rfl⟩ := H
                 have p18 : 0 ≤ (1 : Int) := (by omega)
                 have q18 : 1 < a0.size := (by have : (1 : Int) < (a0.size : Int) := od; omega)
                 have hx18 : ∀ h : 1 < a0.size, ((a0[1]'h).toNat : Int) = bt a0 1 := bt_at a0 1
                 clear p18
                 have qi18 : (1 < (a0.size : Int)) = True := eq_true (od)
                 replace q18 := eq_true q18
                 go_wp2_with (first | (go_at_call 58; (with_reducible refine (strings_IndexByte.calls _ _ _ _ A19.out).mono ?_); rintro e w' ⟨rfl, ⟨nd, rfl⟩⟩; (try exact dw); have p21 : 0 ≤ (2 : Int) := (by omega); have q21 : 2 < a0.size := (by have : (2 : Int) < (a0.size : Int) := od; omega); have hx21 : ∀ h : 2 < a0.size, ((a0[2]'h).toNat : Int) = bt a0 2 := bt_at a0 2; clear p21; have qi21 : (2 < (a0.size : Int)) = True := eq_true (od); replace q21 := eq_true q21) | (go_at_call 58; (with_reducible refine (strings_IndexByte.calls _ _ _ _ A22.out).mono ?_); rintro e w' ⟨rfl, ⟨nd, rfl⟩⟩; (try exact dw)))
                 repeat (go_quiet (first | (go_at_call 58; (with_reducible refine (strings_IndexByte.calls _ _ _ _ A19.out).mono ?_); rintro e w' ⟨rfl, ⟨nd, rfl⟩⟩; (try exact dw); have p21 : 0 ≤ (2 : Int) := (by omega); have q21 : 2 < a0.size := (by have : (2 : Int) < (a0.size : Int) := od; omega); have hx21 : ∀ h : 2 < a0.size, ((a0[2]'h).toNat : Int) = bt a0 2 := bt_at a0 2; clear p21; have qi21 : (2 < (a0.size : Int)) = True := eq_true (od); replace q21 := eq_true q21) | (go_at_call 58; (with_reducible refine (strings_IndexByte.calls _ _ _ _ A22.out).mono ?_); rintro e w' ⟨rfl, ⟨nd, rfl⟩⟩; (try exact dw))); try go_wp2_with (first | (go_at_call 58; (with_reducible refine (strings_IndexByte.calls _ _ _ _ A19.out).mono ?_); rintro e w' ⟨rfl, ⟨nd, rfl⟩⟩; (try exact dw); have p21 : 0 ≤ (2 : Int) := (by omega); have q21 : 2 < a0.size := (by have : (2 : Int) < (a0.size : Int) := od; omega); have hx21 : ∀ h : 2 < a0.size, ((a0[2]'h).toNat : Int) = bt a0 2 := bt_at a0 2; clear p21; have qi21 : (2 < (a0.size : Int)) = True := eq_true (od); replace q21 := eq_true q21) | (go_at_call 58; (with_reducible refine (strings_IndexByte.calls _ _ _ _ A22.out).mono ?_); rintro e w' ⟨rfl, ⟨nd, rfl⟩⟩; (try exact dw))))
                 go_ret2
                 exact ⟨rs, dr⟩
                ·rw [if_neg c26] at H
                 have c26b0 : decide (((Go.bits .or .i64 (wrap64 (t177 * 16)) t178) % 256) ≤ 126) = false := decide_eq_false c26
                 clear c26
                 by_cases c27 : ((Go.bits .or .i64 (wrap64 (t177 * 16)) t178) % 256) = 10
                 ·rw [if_pos c27] at H
                  have c27b0 : (((Go.bits .or .i64 (wrap64 (t177 * 16)) t178) % 256) == 10) = true := beq_iff_eq.mpr c27
                  have c27b1 : (((Go.bits .or .i64 (wrap64 (t177 * 16)) t178) % 256) != 10) = false := bne_eq_false_iff_eq.mpr c27
                  clear c27
                  simp only [Option.some.injEq, Prod.mk.injEq] at H
                  obtain ⟨rfl, rfl⟩ := H
                  have p18 : 0 ≤ (1 : Int) := (by omega)
                  have q18 : 1 < a0.size := (by have : (1 : Int) < (a0.size : Int) := od; omega)
                  have hx18 : ∀ h : 1 < a0.size, ((a0[1]'h).toNat : Int) = bt a0 1 := bt_at a0 1
                  clear p18
                  have qi18 : (1 < (a0.size : Int)) = True := eq_true (od)
                  replace q18 := eq_true q18
                  go_wp2_with (first | (go_at_call 58; (with_reducible refine (strings_IndexByte.calls _ _ _ _ A19.out).mono ?_); rintro e w' ⟨rfl, ⟨nd, rfl⟩⟩; (try exact dw); have p21 : 0 ≤ (2 : Int) := (by omega); have q21 : 2 < a0.size := (by have : (2 : Int) < (a0.size : Int) := od; omega); have hx21 : ∀ h : 2 < a0.size, ((a0[2]'h).toNat : Int) = bt a0 2 := bt_at a0 2; clear p21; have qi21 : (2 < (a0.size : Int)) = True := eq_true (od); replace q21 := eq_true q21) | (go_at_call 58; (with_reducible refine (strings_IndexByte.calls _ _ _ _ A22.out).mono ?_); rintro e w' ⟨rfl, ⟨nd, rfl⟩⟩; (try exact dw)))
                  repeat (go_quiet (first | (go_at_call 58; (with_reducible refine (strings_IndexByte.calls _ _ _ _ A19.out).mono ?_); rintro e w' ⟨rfl, ⟨nd, rfl⟩⟩; (try exact dw); have p21 : 0 ≤ (2 : Int) := (by omega); have q21 : 2 < a0.size := (by have : (2 : Int) < (a0.size : Int) := od; omega); have hx21 : ∀ h : 2 < a0.size, ((a0[2]'h).toNat : Int) = bt a0 2 := bt_at a0 2; clear p21; have qi21 : (2 < (a0.size : Int)) = True := eq_true (od); replace q21 := eq_true q21) | (go_at_call 58; (with_reducible refine (strings_IndexByte.calls _ _ _ _ A22.out).mono ?_); rintro e w' ⟨rfl, ⟨nd, rfl⟩⟩; (try exact dw))); try go_wp2_with (first | (go_at_call 58; (with_reducible refine (strings_IndexByte.calls _ _ _ _ A19.out).mono ?_); rintro e w' ⟨rfl, ⟨nd, rfl⟩⟩; (try exact dw); have p21 : 0 ≤ (2 : Int) := (by omega); have q21 : 2 < a0.size := (by have : (2 : Int) < (a0.size : Int) := od; omega); have hx21 : ∀ h : 2 < a0.size, ((a0[2]'h).toNat : Int) = bt a0 2 := bt_at a0 2; clear p21; have qi21 : (2 < (a0.size : Int)) = True := eq_true (od); replace q21 := eq_true q21) | (go_at_call 58; (with_reducible refine (strings_IndexByte.calls _ _ _ _ A22.out).mono ?_); rintro e w' ⟨rfl, ⟨nd, rfl⟩⟩; (try exact dw))))
                  go_ret2
                  exact ⟨rs, dr⟩
                 ·rw [if_neg c27] at H
                  have c27b0 : (((Go.bits .or .i64 (wrap64 (t177 * 16)) t178) % 256) == 10) = false := beq_eq_false_iff_ne.mpr c27
                  have c27b1 : (((Go.bits .or .i64 (wrap64 (t177 * 16)) t178) % 256) != 10) = true := bne_iff_ne.mpr c27
                  by_cases c28 : ((Go.bits .or .i64 (wrap64 (t177 * 16)) t178) % 256) = 9
                  ·rw [if_pos c28] at H
                   have c28b0 : (((Go.bits .or .i64 (wrap64 (t177 * 16)) t178) % 256) == 9) = true := beq_iff_eq.mpr c28
                   have c28b1 : (((Go.bits .or .i64 (wrap64 (t177 * 16)) t178) % 256) != 9) = false := bne_eq_false_iff_eq.mpr c28
                   clear c28
                   simp only [Option.some.injEq, Prod.mk.injEq] at H
                   obtain ⟨rfl, rfl⟩ := H
                   have p18 : 0 ≤ (1 : Int) := (by omega)
                   have q18 : 1 < a0.size := (by have : (1 : Int) < (a0.size : Int) := od; omega)
                   have hx18 : ∀ h : 1 < a0.size, ((a0[1]'h).toNat : Int) = bt a0 1 := bt_at a0 1
                   clear p18
                   have qi18 : (1 < (a0.size : Int)) = True := eq_true (od)
                   replace q18 := eq_true q18
                   go_wp2_with (first | (go_at_call 58; (with_reducible refine (strings_IndexByte.calls _ _ _ _ A19.out).mono ?_); rintro e w' ⟨rfl, ⟨nd, rfl⟩⟩; (try exact dw); have p21 : 0 ≤ (2 : Int) := (by omega); have q21 : 2 < a0.size := (by have : (2 : Int) < (a0.size : Int) := od; omega); have hx21 : ∀ h : 2 < a0.size, ((a0[2]'h).toNat : Int) = bt a0 2 := bt_at a0 2; clear p21; have qi21 : (2 < (a0.size : Int)) = True := eq_true (od); replace q21 := eq_true q21) | (go_at_call 58; (with_reducible refine (strings_IndexByte.calls _ _ _ _ A22.out).mono ?_); rintro e w' ⟨rfl, ⟨nd, rfl⟩⟩; (try exact dw)))
                   repeat (go_quiet (first | (go_at_call 58; (with_reducible refine (strings_IndexByte.calls _ _ _ _ A19.out).mono ?_); rintro e w' ⟨rfl, ⟨nd, rfl⟩⟩; (try exact dw); have p21 : 0 ≤ (2 : Int) := (by omega); have q21 : 2 < a0.size := (by have : (2 : Int) < (a0.size : Int) := od; omega); have hx21 : ∀ h : 2 < a0.size, ((a0[2]'h).toNat : Int) = bt a0 2 := bt_at a0 2; clear p21; have qi21 : (2 < (a0.size : Int)) = True := eq_true (od); replace q21 := eq_true q21) | (go_at_call 58; (with_reducible refine (strings_IndexByte.calls _ _ _ _ A22.out).mono ?_); rintro e w' ⟨rfl, ⟨nd, rfl⟩⟩; (try exact dw))); try go_wp2_with (first | (go_at_call 58; (with_reducible refine (strings_IndexByte.calls _ _ _ _ A19.out).mono ?_); rintro e w' ⟨rfl, ⟨nd, rfl⟩⟩; (try exact dw); have p21 : 0 ≤ (2 : Int) := (by omega); have q21 : 2 < a0.size := (by have : (2 : Int) < (a0.size : Int) := od; omega); have hx21 : ∀ h : 2 < a0.size, ((a0[2]'h).toNat : Int) = bt a0 2 := bt_at a0 2; clear p21; have qi21 : (2 < (a0.size : Int)) = True := eq_true (od); replace q21 := eq_true q21) | (go_at_call 58; (with_reducible refine (strings_IndexByte.calls _ _ _ _ A22.out).mono ?_); rintro e w' ⟨rfl, ⟨nd, rfl⟩⟩; (try exact dw))))
                   go_ret2
                   exact ⟨rs, dr⟩
                  ·rw [if_neg c28] at H
                   have c28b0 : (((Go.bits .or .i64 (wrap64 (t177 * 16)) t178) % 256) == 9) = false := beq_eq_false_iff_ne.mpr c28
                   have c28b1 : (((Go.bits .or .i64 (wrap64 (t177 * 16)) t178) % 256) != 9) = true := bne_iff_ne.mpr c28
                   simp only [Option.some.injEq, Prod.mk.injEq] at H
                   obtain ⟨rfl, rfl⟩ := H
                   have p18 : 0 ≤ (1 : Int) := (by omega)
                   have q18 : 1 < a0.size := (by have : (1 : Int) < (a0.size : Int) := od; omega)
                   have hx18 : ∀ h : 1 < a0.size, ((a0[1]'h).toNat : Int) = bt a0 1 := bt_at a0 1
                   clear p18
                   have qi18 : (1 < (a0.size : Int)) = True := eq_true (od)
                   replace q18 := eq_true q18
                   go_wp2_with (first | (go_at_call 58; (with_reducible refine (strings_IndexByte.calls _ _ _ _ A19.out).mono ?_); rintro e w' ⟨rfl, ⟨nd, rfl⟩⟩; (try exact dw); have p21 : 0 ≤ (2 : Int) := (by omega); have q21 : 2 < a0.size := (by have : (2 : Int) < (a0.size : Int) := od; omega); have hx21 : ∀ h : 2 < a0.size, ((a0[2]'h).toNat : Int) = bt a0 2 := bt_at a0 2; clear p21; have qi21 : (2 < (a0.size : Int)) = True := eq_true (od); replace q21 := eq_true q21) | (go_at_call 58; (with_reducible refine (strings_IndexByte.calls _ _ _ _ A22.out).mono ?_); rintro e w' ⟨rfl, ⟨nd, rfl⟩⟩; (try exact dw)))
                   repeat (go_quiet (first | (go_at_call 58; (with_reducible refine (strings_IndexByte.calls _ _ _ _ A19.out).mono ?_); rintro e w' ⟨rfl, ⟨nd, rfl⟩⟩; (try exact dw); have p21 : 0 ≤ (2 : Int) := (by omega); have q21 : 2 < a0.size := (by have : (2 : Int) < (a0.size : Int) := od; omega); have hx21 : ∀ h : 2 < a0.size, ((a0[2]'h).toNat : Int) = bt a0 2 := bt_at a0 2; clear p21; have qi21 : (2 < (a0.size : Int)) = True := eq_true (od); replace q21 := eq_true q21) | (go_at_call 58; (with_reducible refine (strings_IndexByte.calls _ _ _ _ A22.out).mono ?_); rintro e w' ⟨rfl, ⟨nd, rfl⟩⟩; (try exact dw))); try go_wp2_with (first | (go_at_call 58; (with_reducible refine (strings_IndexByte.calls _ _ _ _ A19.out).mono ?_); rintro e w' ⟨rfl, ⟨nd, rfl⟩⟩; (try exact dw); have p21 : 0 ≤ (2 : Int) := (by omega); have q21 : 2 < a0.size := (by have : (2 : Int) < (a0.size : Int) := od; omega); have hx21 : ∀ h : 2 < a0.size, ((a0[2]'h).toNat : Int) = bt a0 2 := bt_at a0 2; clear p21; have qi21 : (2 < (a0.size : Int)) = True := eq_true (od); replace q21 := eq_true q21) | (go_at_call 58; (with_reducible refine (strings_IndexByte.calls _ _ _ _ A22.out).mono ?_); rintro e w' ⟨rfl, ⟨nd, rfl⟩⟩; (try exact dw))))
                   go_ret2
                   exact ⟨rs, dr⟩
               ·rw [if_neg c25] at H
                have c25b0 : decide (32 ≤ ((Go.bits .or .i64 (wrap64 (t177 * 16)) t178) % 256)) = false := decide_eq_false c25
                clear c25
                by_cases c29 : ((Go.bits .or .i64 (wrap64 (t177 * 16)) t178) % 256) = 10
                ·rw [if_pos c29] at H
                 have c29b0 : (((Go.bits .or .i64 (wrap64 (t177 * 16)) t178) % 256) == 10) = true := beq_iff_eq.mpr c29
                 have c29b1 : (((Go.bits .or .i64 (wrap64 (t177 * 16)) t178) % 256) != 10) = false := bne_eq_false_iff_eq.mpr c29
                 clear c29
                 simp only [Option.some.injEq, Prod.mk.injEq] at H
                 obtain ⟨rfl, rfl⟩ := H
                 have p18 : 0 ≤ (1 : Int) := (by omega)
                 have q18 : 1 < a0.size := (by have : (1 : Int) < (a0.size : Int) := od; omega)
                 have hx18 : ∀ h : 1 < a0.size, ((a0[1]'h).toNat : Int) = bt a0 1 := bt_at a0 1
                 clear p18
                 have qi18 : (1 < (a0.size : Int)) = True := eq_true (od)
                 replace q18 := eq_true q18
                 go_wp2_with (first | (go_at_call 58; (with_reducible refine (strings_IndexByte.calls _ _ _ _ A19.out).mono ?_); rintro e w' ⟨rfl, ⟨nd, rfl⟩⟩; (try exact dw); have p21 : 0 ≤ (2 : Int) := (by omega); have q21 : 2 < a0.size := (by have : (2 : Int) < (a0.size : Int) := od; omega); have hx21 : ∀ h : 2 < a0.size, ((a0[2]'h).toNat : Int) = bt a0 2 := bt_at a0 2; clear p21; have qi21 : (2 < (a0.size : Int)) = True := eq_true (od); replace q21 := eq_true q21) | (go_at_call 58; (with_reducible refine (strings_IndexByte.calls _ _ _ _ A22.out).mono ?_); rintro e w' ⟨rfl, ⟨nd, rfl⟩⟩; (try exact dw)))
                 repeat (go_quiet (first | (go_at_call 58; (with_reducible refine (strings_IndexByte.calls _ _ _ _ A19.out).mono ?_); rintro e w' ⟨rfl, ⟨nd, rfl⟩⟩; (try exact dw); have p21 : 0 ≤ (2 : Int) := (by omega); have q21 : 2 < a0.size := (by have : (2 : Int) < (a0.size : Int) := od; omega); have hx21 : ∀ h : 2 < a0.size, ((a0[2]'h).toNat : Int) = bt a0 2 := bt_at a0 2; clear p21; have qi21 : (2 < (a0.size : Int)) = True := eq_true (od); replace q21 := eq_true q21) | (go_at_call 58; (with_reducible refine (strings_IndexByte.calls _ _ _ _ A22.out).mono ?_); rintro e w' ⟨rfl, ⟨nd, rfl⟩⟩; (try exact dw))); try go_wp2_with (first | (go_at_call 58; (with_reducible refine (strings_IndexByte.calls _ _ _ _ A19.out).mono ?_); rintro e w' ⟨rfl, ⟨nd, rfl⟩⟩; (try exact dw); have p21 : 0 ≤ (2 : Int) := (by omega); have q21 : 2 < a0.size := (by have : (2 : Int) < (a0.size : Int) := od; omega); have hx21 : ∀ h : 2 < a0.size, ((a0[2]'h).toNat : Int) = bt a0 2 := bt_at a0 2; clear p21; have qi21 : (2 < (a0.size : Int)) = True := eq_true (od); replace q21 := eq_true q21) | (go_at_call 58; (with_reducible refine (strings_IndexByte.calls _ _ _ _ A22.out).mono ?_); rintro e w' ⟨rfl, ⟨nd, rfl⟩⟩; (try exact dw))))
                 go_ret2
                 exact ⟨rs, dr⟩
                ·rw [if_neg c29] at H
                 have c29b0 : (((Go.bits .or .i64 (wrap64 (t177 * 16)) t178) % 256) == 10) = false := beq_eq_false_iff_ne.mpr c29
                 have c29b1 : (((Go.bits .or .i64 (wrap64 (t177 * 16)) t178) % 256) != 10) = true := bne_iff_ne.mpr c29
                 by_cases c30 : ((Go.bits .or .i64 (wrap64 (t177 * 16)) t178) % 256) = 9
                 ·rw [if_pos c30] at H
                  have c30b0 : (((Go.bits .or .i64 (wrap64 (t177 * 16)) t178) % 256) == 9) = true := beq_iff_eq.mpr c30
                  have c30b1 : (((Go.bits .or .i64 (wrap64 (t177 * 16)) t178) % 256) != 9) = false := bne_eq_false_iff_eq.mpr c30
                  clear c30
                  simp only [Option.some.injEq, Prod.mk.injEq] at H
                  obtain ⟨rfl, rfl⟩ := H
                  have p18 : 0 ≤ (1 : Int) := (by omega)
                  have q18 : 1 < a0.size := (by have : (1 : Int) < (a0.size : Int) := od; omega)
                  have hx18 : ∀ h : 1 < a0.size, ((a0[1]'h).toNat : Int) = bt a0 1 := bt_at a0 1
                  clear p18
                  have qi18 : (1 < (a0.size : Int)) = True := eq_true (od)
                  replace q18 := eq_true q18
                  go_wp2_with (first | (go_at_call 58; (with_reducible refine (strings_IndexByte.calls _ _ _ _ A19.out).mono ?_); rintro e w' ⟨rfl, ⟨nd, rfl⟩⟩; (try exact dw); have p21 : 0 ≤ (2 : Int) := (by omega); have q21 : 2 < a0.size := (by have : (2 : Int) < (a0.size : Int) := od; omega); have hx21 : ∀ h : 2 < a0.size, ((a0[2]'h).toNat : Int) = bt a0 2 := bt_at a0 2; clear p21; have qi21 : (2 < (a0.size : Int)) = True := eq_true (od); replace q21 := eq_true q21) | (go_at_call 58; (with_reducible refine (strings_IndexByte.calls _ _ _ _ A22.out).mono ?_); rintro e w' ⟨rfl, ⟨nd, rfl⟩⟩; (try exact dw)))
                  repeat (go_quiet (first | (go_at_call 58; (with_reducible refine (strings_IndexByte.calls _ _ _ _ A19.out).mono ?_); rintro e w' ⟨rfl, ⟨nd, rfl⟩⟩; (try exact dw); have p21 : 0 ≤ (2 : Int) := (by omega); have q21 : 2 < a0.size := (by have : (2 : Int) < (a0.size : Int) := od; omega); have hx21 : ∀ h : 2 < a0.size, ((a0[2]'h).toNat : Int) = bt a0 2 := bt_at a0 2; clear p21; have qi21 : (2 < (a0.size : Int)) = True := eq_true (od); replace q21 := eq_true q21) | (go_at_call 58; (with_reducible refine (strings_IndexByte.calls _ _ _ _ A22.out).mono ?_); rintro e w' ⟨rfl, ⟨nd, rfl⟩⟩; (try exact dw))); try go_wp2_with (first | (go_at_call 58; (with_reducible refine (strings_IndexByte.calls _ _ _ _ A19.out).mono ?_); rintro e w' ⟨rfl, ⟨nd, rfl⟩⟩; (try exact dw); have p21 : 0 ≤ (2 : Int) := (by omega); have q21 : 2 < a0.size := (by have : (2 : Int) < (a0.size : Int) := od; omega); have hx21 : ∀ h : 2 < a0.size, ((a0[2]'h).toNat : Int) = bt a0 2 := bt_at a0 2; clear p21; have qi21 : (2 < (a0.size : Int)) = True := eq_true (od); replace q21 := eq_true q21) | (go_at_call 58; (with_reducible refine (strings_IndexByte.calls _ _ _ _ A22.out).mono ?_); rintro e w' ⟨rfl, ⟨nd, rfl⟩⟩; (try exact dw))))
                  go_ret2
                  exact ⟨rs, dr⟩
                 ·rw [if_neg c30] at H
                  have c30b0 : (((Go.bits .or .i64 (wrap64 (t177 * 16)) t178) % 256) == 9) = false := beq_eq_false_iff_ne.mpr c30
                  have c30b1 : (((Go.bits .or .i64 (wrap64 (t177 * 16)) t178) % 256) != 9) = true := bne_iff_ne.mpr c30
                  simp only [Option.some.injEq, Prod.mk.injEq] at H
                  obtain ⟨rfl, rfl⟩ := H
                  have p18 : 0 ≤ (1 : Int) := (by omega)
                  have q18 : 1 < a0.size := (by have : (1 : Int) < (a0.size : Int) := od; omega)
                  have hx18 : ∀ h : 1 < a0.size, ((a0[1]'h).toNat : Int) = bt a0 1 := bt_at a0 1
                  clear p18
                  have qi18 : (1 < (a0.size : Int)) = True := eq_true (od)
                  replace q18 := eq_true q18
                  go_wp2_with (first | (go_at_call 58; (with_reducible refine (strings_IndexByte.calls _ _ _ _ A19.out).mono ?_); rintro e w' ⟨rfl, ⟨nd, rfl⟩⟩; (try exact dw); have p21 : 0 ≤ (2 : Int) := (by omega); have q21 : 2 < a0.size := (by have : (2 : Int) < (a0.size : Int) := od; omega); have hx21 : ∀ h : 2 < a0.size, ((a0[2]'h).toNat : Int) = bt a0 2 := bt_at a0 2; clear p21; have qi21 : (2 < (a0.size : Int)) = True := eq_true (od); replace q21 := eq_true q21) | (go_at_call 58; (with_reducible refine (strings_IndexByte.calls _ _ _ _ A22.out).mono ?_); rintro e w' ⟨rfl, ⟨nd, rfl⟩⟩; (try exact dw)))
                  repeat (go_quiet (first | (go_at_call 58; (with_reducible refine (strings_IndexByte.calls _ _ _ _ A19.out).mono ?_); rintro e w' ⟨rfl, ⟨nd, rfl⟩⟩; (try exact dw); have p21 : 0 ≤ (2 : Int) := (by omega); have q21 : 2 < a0.size := (by have : (2 : Int) < (a0.size : Int) := od; omega); have hx21 : ∀ h : 2 < a0.size, ((a0[2]'h).toNat : Int) = bt a0 2 := bt_at a0 2; clear p21; have qi21 : (2 < (a0.size : Int)) = True := eq_true (od); replace q21 := eq_true q21) | (go_at_call 58; (with_reducible refine (strings_IndexByte.calls _ _ _ _ A22.out).mono ?_); rintro e w' ⟨rfl, ⟨nd, rfl⟩⟩; (try exact dw))); try go_wp2_with (first | (go_at_call 58; (with_reducible refine (strings_IndexByte.calls _ _ _ _ A19.out).mono ?_); rintro e w' ⟨rfl, ⟨nd, rfl⟩⟩; (try exact dw); have p21 : 0 ≤ (2 : Int) := (by omega); have q21 : 2 < a0.size := (by have : (2 : Int) < (a0.size : Int) := od; omega); have hx21 : ∀ h : 2 < a0.size, ((a0[2]'h).toNat : Int) = bt a0 2 := bt_at a0 2; clear p21; have qi21 : (2 < (a0.size : Int)) = True := eq_true (od); replace q21 := eq_true q21) | (go_at_call 58; (with_reducible refine (strings_IndexByte.calls _ _ _ _ A22.out).mono ?_); rintro e w' ⟨rfl, ⟨nd, rfl⟩⟩; (try exact dw))))
                  go_ret2
                  exact ⟨rs, dr⟩
            ·rw [if_neg c20] at H
             exact absurd H (by simp)
           ·rw [if_neg c17] at H
            exact absurd H (by simp)
  ·rw [if_neg c3] at H
   exact absurd H (by simp)

end Go.Proofs.YtjmbddgbojcpmaaDoor.X
