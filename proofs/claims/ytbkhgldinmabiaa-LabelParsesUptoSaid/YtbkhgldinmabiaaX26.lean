-- Laid by xprint.py, a program of this session's, out of the translation.
import Derived.Test.YtbkhgldinmabiaaX0
import Derived.Test.YtbkhgldinmabiaaX19
import Derived.Test.YtbkhgldinmabiaaX25
namespace Go.Proofs.Ytbkhgldinmabiaa.X
open Go.RowKit Go.Proofs.YtbkhgldinmabiaaW.PrintWords Go.Proofs.YtbkhgldinmabiaaW.PrintLast Go.Proofs.YtbkhgldinmabiaaW.PrintMore
attribute [local go_sem] max2_int min2_int max_two min_two max_three min_three max_four min_four x_isSome x_str_gtr x_str_leq x_str_geq   -- for this text's walks alone
set_option linter.unusedVariables false
set_option linter.unusedSimpArgs false

/-! ### archivistref06_Parse: function 36 -/
mutual
def archivistref06_Parse.j0 : Nat → ByteArray → List (S38) → Bool → Option ((List (S38)) × Int × Bool)
 | 0, _, _, _ => none
 | k + 1, x0, x5, x17 => if x17 = true then (some (([] : List (S38)), 0, false)) else (archivistref06_Parse.l0 k x0 x5 1)
def archivistref06_Parse.l0 : Nat → ByteArray → List (S38) → Int → Option ((List (S38)) × Int × Bool)
 | 0, _, _, _ => none
 | k + 1, x0, x5, x6 => if (x5.length : Int) < 18 then (if x6 < (x0.size : Int) then (if 0 ≤ x6 then (if (bt x0 x6) = 125 then (archivistref06_Parse.j2 k x0 x5 x6 ((x5.length : Int) == 0)) else (archivistref06_Parse.j2 k x0 x5 x6 false)) else (none)) else (archivistref06_Parse.j2 k x0 x5 x6 false)) else ((archivistref06_Right.f k x5).bind fun t453 => (if t453 = true then (some (x5, x6, true)) else (some (([] : List (S38)), 0, false))))
def archivistref06_Parse.j2 : Nat → ByteArray → List (S38) → Int → Bool → Option ((List (S38)) × Int × Bool)
 | 0, _, _, _, _ => none
 | k + 1, x0, x5, x6, x35 => if x35 = true then ((archivistref06_Right.f k x5).bind fun t454 => (if t454 = true then (some (x5, wrap64 (x6 + 1), true)) else (some (([] : List (S38)), 0, false)))) else (archivistref06_Parse.l1 k x0 x5 x6 x6)
def archivistref06_Parse.j4 : Nat → ByteArray → List (S38) → Int → Int → Option ((List (S38)) × Int × Bool)
 | 0, _, _, _, _ => none
 | k + 1, x0, x5, x6, x7 => if x7 ≥ (x0.size : Int) then (archivistref06_Parse.j5 k x0 x5 x6 x7 true) else (if 0 ≤ x7 then (if x7 < (x0.size : Int) then (archivistref06_Parse.j5 k x0 x5 x6 x7 ((bt x0 x7) != 61)) else (none)) else (none))
def archivistref06_Parse.j5 : Nat → ByteArray → List (S38) → Int → Int → Bool → Option ((List (S38)) × Int × Bool)
 | 0, _, _, _, _, _ => none
 | k + 1, x0, x5, x6, x7, x66 => if x66 = true then (some (([] : List (S38)), 0, false)) else (if 0 ≤ (wrap64 (x7 + 1)) then (if (wrap64 (x7 + 1)) ≤ (x0.size : Int) then ((archivistref01_Get.f k (x0.extract ((wrap64 (x7 + 1)) : Int).toNat x0.size)).bind fun bt455 => (if bt455.2.2 = true then (if 0 ≤ x6 then (if x6 ≤ x7 then (if x7 ≤ (x0.size : Int) then (if x5.length < 4398046511104 then ((some (x5 ++ [(⟨x0.extract (x6 : Int).toNat (x7 : Int).toNat, bt455.1⟩ : S38)] : List (S38))).bind fun y458 => (if (wrap64 ((wrap64 (x7 + 1)) + bt455.2.1)) ≥ (x0.size : Int) then (archivistref06_Parse.j6 k x0 y458 (wrap64 ((wrap64 (x7 + 1)) + bt455.2.1)) true) else (if 0 ≤ (wrap64 ((wrap64 (x7 + 1)) + bt455.2.1)) then (if (wrap64 ((wrap64 (x7 + 1)) + bt455.2.1)) < (x0.size : Int) then (if (bt x0 (wrap64 ((wrap64 (x7 + 1)) + bt455.2.1))) = 44 then (archivistref06_Parse.j6 k x0 y458 (wrap64 ((wrap64 (x7 + 1)) + bt455.2.1)) false) else (archivistref06_Parse.j6 k x0 y458 (wrap64 ((wrap64 (x7 + 1)) + bt455.2.1)) ((bt x0 (wrap64 ((wrap64 (x7 + 1)) + bt455.2.1))) != 125))) else (none)) else (none)))) else (none)) else (none)) else (none)) else (none)) else (some (([] : List (S38)), 0, false)))) else (none)) else (none))
def archivistref06_Parse.j6 : Nat → ByteArray → List (S38) → Int → Bool → Option ((List (S38)) × Int × Bool)
 | 0, _, _, _, _ => none
 | k + 1, x0, x5, x6, x106 => if x106 = true then (some (([] : List (S38)), 0, false)) else (if 0 ≤ (wrap64 ((wrap64 (x6 + 1)) - 1)) then (if (wrap64 ((wrap64 (x6 + 1)) - 1)) < (x0.size : Int) then (if (bt x0 (wrap64 ((wrap64 (x6 + 1)) - 1))) = 125 then ((archivistref06_Right.f k x5).bind fun t461 => (if t461 = true then (some (x5, wrap64 (x6 + 1), true)) else (some (([] : List (S38)), 0, false)))) else (archivistref06_Parse.l0 k x0 x5 (wrap64 (x6 + 1)))) else (none)) else (none))
def archivistref06_Parse.l1 : Nat → ByteArray → List (S38) → Int → Int → Option ((List (S38)) × Int × Bool)
 | 0, _, _, _, _ => none
 | k + 1, x0, x5, x6, x7 => if x7 < (x0.size : Int) then (if 0 ≤ x7 then (if (bt x0 x7) = 61 then (archivistref06_Parse.j4 k x0 x5 x6 x7) else (if x7 < (wrap64 (x6 + 33)) then (archivistref06_Parse.l1 k x0 x5 x6 (wrap64 (x7 + 1))) else (archivistref06_Parse.j4 k x0 x5 x6 x7))) else (none)) else (archivistref06_Parse.j4 k x0 x5 x6 x7)
end
def archivistref06_Parse.f (k : Nat) (a0 : ByteArray) : Option ((List (S38)) × Int × Bool) := if a0.toList = ([] : List UInt8) then (archivistref06_Parse.j0 k a0 ([] : List (S38)) true) else (if 0 < (a0.size : Int) then (archivistref06_Parse.j0 k a0 ([] : List (S38)) ((bt a0 0) != 123)) else (none))
theorem archivistref06_Parse.mono_l : ∀ k, (∀ y0 y1 y2, LeO (archivistref06_Parse.j0 k y0 y1 y2) (archivistref06_Parse.j0 (k + 1) y0 y1 y2)) ∧ (∀ y0 y1 y2, LeO (archivistref06_Parse.l0 k y0 y1 y2) (archivistref06_Parse.l0 (k + 1) y0 y1 y2)) ∧ (∀ y0 y1 y2 y3, LeO (archivistref06_Parse.j2 k y0 y1 y2 y3) (archivistref06_Parse.j2 (k + 1) y0 y1 y2 y3)) ∧ (∀ y0 y1 y2 y3, LeO (archivistref06_Parse.j4 k y0 y1 y2 y3) (archivistref06_Parse.j4 (k + 1) y0 y1 y2 y3)) ∧ (∀ y0 y1 y2 y3 y4, LeO (archivistref06_Parse.j5 k y0 y1 y2 y3 y4) (archivistref06_Parse.j5 (k + 1) y0 y1 y2 y3 y4)) ∧ (∀ y0 y1 y2 y3, LeO (archivistref06_Parse.j6 k y0 y1 y2 y3) (archivistref06_Parse.j6 (k + 1) y0 y1 y2 y3)) ∧ (∀ y0 y1 y2 y3, LeO (archivistref06_Parse.l1 k y0 y1 y2 y3) (archivistref06_Parse.l1 (k + 1) y0 y1 y2 y3))
 | 0 => ⟨fun _ _ _ r h => by simp [archivistref06_Parse.j0] at h, fun _ _ _ r h => by simp [archivistref06_Parse.l0] at h, fun _ _ _ _ r h => by simp [archivistref06_Parse.j2] at h, fun _ _ _ _ r h => by simp [archivistref06_Parse.j4] at h, fun _ _ _ _ _ r h => by simp [archivistref06_Parse.j5] at h, fun _ _ _ _ r h => by simp [archivistref06_Parse.j6] at h, fun _ _ _ _ r h => by simp [archivistref06_Parse.l1] at h⟩
 | k + 1 => by
  obtain ⟨ih0, ih1, ih2, ih3, ih4, ih5, ih6⟩ := archivistref06_Parse.mono_l k
  refine ⟨?_, ?_, ?_, ?_, ?_, ?_, ?_⟩
  ·intro y0 y1 y2
   unfold archivistref06_Parse.j0
   repeat' first
   | (with_reducible exact ih0 _ _ _)
   | (with_reducible exact ih1 _ _ _)
   | (with_reducible exact ih2 _ _ _ _)
   | (with_reducible exact ih3 _ _ _ _)
   | (with_reducible exact ih4 _ _ _ _ _)
   | (with_reducible exact ih5 _ _ _ _)
   | (with_reducible exact ih6 _ _ _ _)
   | (with_reducible exact archivistref01_Get.mono _ _)
   | (with_reducible exact archivistref06_Right.mono _ _)
   | (with_reducible exact LeO.refl _)
   | (with_reducible exact LeO.none _)
   | (with_reducible refine LeO.ite ?_ ?_)
   | (with_reducible refine LeO.bind ?_ (fun _ => ?_))
   | exact ih0 _ _ _
   | exact ih1 _ _ _
   | exact ih2 _ _ _ _
   | exact ih3 _ _ _ _
   | exact ih4 _ _ _ _ _
   | exact ih5 _ _ _ _
   | exact ih6 _ _ _ _
   | exact archivistref01_Get.mono _ _
   | exact archivistref06_Right.mono _ _
   | exact LeO.none _
   | refine LeO.ite ?_ ?_
   | refine LeO.bind ?_ (fun _ => ?_)
  ·intro y0 y1 y2
   unfold archivistref06_Parse.l0
   repeat' first
   | (with_reducible exact ih0 _ _ _)
   | (with_reducible exact ih1 _ _ _)
   | (with_reducible exact ih2 _ _ _ _)
   | (with_reducible exact ih3 _ _ _ _)
   | (with_reducible exact ih4 _ _ _ _ _)
   | (with_reducible exact ih5 _ _ _ _)
   | (with_reducible exact ih6 _ _ _ _)
   | (with_reducible exact archivistref01_Get.mono _ _)
   | (with_reducible exact archivistref06_Right.mono _ _)
   | (with_reducible exact LeO.refl _)
   | (with_reducible exact LeO.none _)
   | (with_reducible refine LeO.ite ?_ ?_)
   | (with_reducible refine LeO.bind ?_ (fun _ => ?_))
   | exact ih0 _ _ _
   | exact ih1 _ _ _
   | exact ih2 _ _ _ _
   | exact ih3 _ _ _ _
   | exact ih4 _ _ _ _ _
   | exact ih5 _ _ _ _
   | exact ih6 _ _ _ _
   | exact archivistref01_Get.mono _ _
   | exact archivistref06_Right.mono _ _
   | exact LeO.none _
   | refine LeO.ite ?_ ?_
   | refine LeO.bind ?_ (fun _ => ?_)
  ·intro y0 y1 y2 y3
   unfold archivistref06_Parse.j2
   repeat' first
   | (with_reducible exact ih0 _ _ _)
   | (with_reducible exact ih1 _ _ _)
   | (with_reducible exact ih2 _ _ _ _)
   | (with_reducible exact ih3 _ _ _ _)
   | (with_reducible exact ih4 _ _ _ _ _)
   | (with_reducible exact ih5 _ _ _ _)
   | (with_reducible exact ih6 _ _ _ _)
   | (with_reducible exact archivistref01_Get.mono _ _)
   | (with_reducible exact archivistref06_Right.mono _ _)
   | (with_reducible exact LeO.refl _)
   | (with_reducible exact LeO.none _)
   | (with_reducible refine LeO.ite ?_ ?_)
   | (with_reducible refine LeO.bind ?_ (fun _ => ?_))
   | exact ih0 _ _ _
   | exact ih1 _ _ _
   | exact ih2 _ _ _ _
   | exact ih3 _ _ _ _
   | exact ih4 _ _ _ _ _
   | exact ih5 _ _ _ _
   | exact ih6 _ _ _ _
   | exact archivistref01_Get.mono _ _
   | exact archivistref06_Right.mono _ _
   | exact LeO.none _
   | refine LeO.ite ?_ ?_
   | refine LeO.bind ?_ (fun _ => ?_)
  ·intro y0 y1 y2 y3
   unfold archivistref06_Parse.j4
   repeat' first
   | (with_reducible exact ih0 _ _ _)
   | (with_reducible exact ih1 _ _ _)
   | (with_reducible exact ih2 _ _ _ _)
   | (with_reducible exact ih3 _ _ _ _)
   | (with_reducible exact ih4 _ _ _ _ _)
   | (with_reducible exact ih5 _ _ _ _)
   | (with_reducible exact ih6 _ _ _ _)
   | (with_reducible exact archivistref01_Get.mono _ _)
   | (with_reducible exact archivistref06_Right.mono _ _)
   | (with_reducible exact LeO.refl _)
   | (with_reducible exact LeO.none _)
   | (with_reducible refine LeO.ite ?_ ?_)
   | (with_reducible refine LeO.bind ?_ (fun _ => ?_))
   | exact ih0 _ _ _
   | exact ih1 _ _ _
   | exact ih2 _ _ _ _
   | exact ih3 _ _ _ _
   | exact ih4 _ _ _ _ _
   | exact ih5 _ _ _ _
   | exact ih6 _ _ _ _
   | exact archivistref01_Get.mono _ _
   | exact archivistref06_Right.mono _ _
   | exact LeO.none _
   | refine LeO.ite ?_ ?_
   | refine LeO.bind ?_ (fun _ => ?_)
  ·intro y0 y1 y2 y3 y4
   unfold archivistref06_Parse.j5
   repeat' first
   | (with_reducible exact ih0 _ _ _)
   | (with_reducible exact ih1 _ _ _)
   | (with_reducible exact ih2 _ _ _ _)
   | (with_reducible exact ih3 _ _ _ _)
   | (with_reducible exact ih4 _ _ _ _ _)
   | (with_reducible exact ih5 _ _ _ _)
   | (with_reducible exact ih6 _ _ _ _)
   | (with_reducible exact archivistref01_Get.mono _ _)
   | (with_reducible exact archivistref06_Right.mono _ _)
   | (with_reducible exact LeO.refl _)
   | (with_reducible exact LeO.none _)
   | (with_reducible refine LeO.ite ?_ ?_)
   | (with_reducible refine LeO.bind ?_ (fun _ => ?_))
   | exact ih0 _ _ _
   | exact ih1 _ _ _
   | exact ih2 _ _ _ _
   | exact ih3 _ _ _ _
   | exact ih4 _ _ _ _ _
   | exact ih5 _ _ _ _
   | exact ih6 _ _ _ _
   | exact archivistref01_Get.mono _ _
   | exact archivistref06_Right.mono _ _
   | exact LeO.none _
   | refine LeO.ite ?_ ?_
   | refine LeO.bind ?_ (fun _ => ?_)
  ·intro y0 y1 y2 y3
   unfold archivistref06_Parse.j6
   repeat' first
   | (with_reducible exact ih0 _ _ _)
   | (with_reducible exact ih1 _ _ _)
   | (with_reducible exact ih2 _ _ _ _)
   | (with_reducible exact ih3 _ _ _ _)
   | (with_reducible exact ih4 _ _ _ _ _)
   | (with_reducible exact ih5 _ _ _ _)
   | (with_reducible exact ih6 _ _ _ _)
   | (with_reducible exact archivistref01_Get.mono _ _)
   | (with_reducible exact archivistref06_Right.mono _ _)
   | (with_reducible exact LeO.refl _)
   | (with_reducible exact LeO.none _)
   | (with_reducible refine LeO.ite ?_ ?_)
   | (with_reducible refine LeO.bind ?_ (fun _ => ?_))
   | exact ih0 _ _ _
   | exact ih1 _ _ _
   | exact ih2 _ _ _ _
   | exact ih3 _ _ _ _
   | exact ih4 _ _ _ _ _
   | exact ih5 _ _ _ _
   | exact ih6 _ _ _ _
   | exact archivistref01_Get.mono _ _
   | exact archivistref06_Right.mono _ _
   | exact LeO.none _
   | refine LeO.ite ?_ ?_
   | refine LeO.bind ?_ (fun _ => ?_)
  ·intro y0 y1 y2 y3
   unfold archivistref06_Parse.l1
   repeat' first
   | (with_reducible exact ih0 _ _ _)
   | (with_reducible exact ih1 _ _ _)
   | (with_reducible exact ih2 _ _ _ _)
   | (with_reducible exact ih3 _ _ _ _)
   | (with_reducible exact ih4 _ _ _ _ _)
   | (with_reducible exact ih5 _ _ _ _)
   | (with_reducible exact ih6 _ _ _ _)
   | (with_reducible exact archivistref01_Get.mono _ _)
   | (with_reducible exact archivistref06_Right.mono _ _)
   | (with_reducible exact LeO.refl _)
   | (with_reducible exact LeO.none _)
   | (with_reducible refine LeO.ite ?_ ?_)
   | (with_reducible refine LeO.bind ?_ (fun _ => ?_))
   | exact ih0 _ _ _
   | exact ih1 _ _ _
   | exact ih2 _ _ _ _
   | exact ih3 _ _ _ _
   | exact ih4 _ _ _ _ _
   | exact ih5 _ _ _ _
   | exact ih6 _ _ _ _
   | exact archivistref01_Get.mono _ _
   | exact archivistref06_Right.mono _ _
   | exact LeO.none _
   | refine LeO.ite ?_ ?_
   | refine LeO.bind ?_ (fun _ => ?_)
theorem archivistref06_Parse.mono : ∀ a0 k, LeO (archivistref06_Parse.f k a0) (archivistref06_Parse.f (k + 1) a0) := by
 intro a0 k
 obtain ⟨ih0, ih1, ih2, ih3, ih4, ih5, ih6⟩ := archivistref06_Parse.mono_l k
 unfold archivistref06_Parse.f
 repeat' first
   | (with_reducible exact ih0 _ _ _)
   | (with_reducible exact ih1 _ _ _)
   | (with_reducible exact ih2 _ _ _ _)
   | (with_reducible exact ih3 _ _ _ _)
   | (with_reducible exact ih4 _ _ _ _ _)
   | (with_reducible exact ih5 _ _ _ _)
   | (with_reducible exact ih6 _ _ _ _)
   | (with_reducible exact archivistref01_Get.mono _ _)
   | (with_reducible exact archivistref06_Right.mono _ _)
   | (with_reducible exact LeO.refl _)
   | (with_reducible exact LeO.none _)
   | (with_reducible refine LeO.ite ?_ ?_)
   | (with_reducible refine LeO.bind ?_ (fun _ => ?_))
   | exact ih0 _ _ _
   | exact ih1 _ _ _
   | exact ih2 _ _ _ _
   | exact ih3 _ _ _ _
   | exact ih4 _ _ _ _ _
   | exact ih5 _ _ _ _
   | exact ih6 _ _ _ _
   | exact archivistref01_Get.mono _ _
   | exact archivistref06_Right.mono _ _
   | exact LeO.none _
   | refine LeO.ite ?_ ?_
   | refine LeO.bind ?_ (fun _ => ?_)
set_option maxHeartbeats 8000000 in
set_option maxRecDepth 100000 in
theorem archivistref06_Parse.calls (k : Nat) (a0 : ByteArray) (r1 : List (S38)) (r2 : Int) (r3 : Bool) (w : World) (h : archivistref06_Parse.f k a0 = some (r1, r2, r3)) :
  Calls Try.prog 36 #[.string a0] w fun e w' => ∃ v0_ : Value, e = .returned (.tuple #[v0_, .int .i64 r2, .bool r3]) ∧ Kd.R k38 38 w' w.heap.size (fun _ => True) v0_ r1 ∧ Below w.heap.size w w' := by
 have hu38 := Try.underlying38
 have HB := Aside0.mk (Below.refl w.heap.size w)
 have H : (if a0.toList = ([] : List UInt8) then (archivistref06_Parse.j0 k a0 ([] : List (S38)) true) else (if 0 < (a0.size : Int) then (archivistref06_Parse.j0 k a0 ([] : List (S38)) ((bt a0 0) != 123)) else (none))) = some (r1, r2, r3) := h
 clear h
 have HC2 := Aside0.mk H
 clear H
 go_enter Try.func36, Try.ntmps36
 go_upto_region 2 with (fail)
 go_cut [17] (fun v17 wc => ∃ (kq : Nat) (x17_1 : Bool), v17 = .bool x17_1 ∧ Aside0 (archivistref06_Parse.j0 kq a0 ([] : List (S38)) x17_1 = some (r1, r2, r3)) ∧ Aside0 (kq ≤ k) ∧ Aside0 (Kd.R k38 38 wc w.heap.size (fun _ => True) (.slice none 0 0) ([] : List (S38))) ∧ Aside0 (Below w.heap.size w wc))
 case first =>
  have H := HC2.out
  clear HC2
  by_cases c3 : a0.toList = ([] : List UInt8)
  ·rw [if_pos c3] at H
   have c3b0 : (a0.toList == ([] : List UInt8)) = true := beq_iff_eq.mpr c3
   have c3b1 : (a0.toList != ([] : List UInt8)) = false := bne_eq_false_iff_eq.mpr c3
   clear c3
   (first | rw [c3b0] | (simp only [i64_w, i32_w]; rw [c3b0]) | skip)
   have H' := Aside0.mk H
   clear H
   go_wp2
   go_meet
   case rel => exact ⟨_, (true), rs, H', ⟨by first | omega | exact Nat.le_refl _⟩, ⟨by first | exact Kd.R_nil _ _ _ _ _ | exact Kd.N_nil _ _ _ _ _ | exact Kd.V_nil _ _ _ _ _ | exact Kd.Q_nil _ _ _ _ _ | exact Kd.S_nil _ _ _ _ _⟩, ⟨bl⟩⟩
  ·rw [if_neg c3] at H
   have c3b0 : (a0.toList == ([] : List UInt8)) = false := beq_eq_false_iff_ne.mpr c3
   have c3b1 : (a0.toList != ([] : List UInt8)) = true := bne_iff_ne.mpr c3
   (first | rw [c3b0] | (simp only [i64_w, i32_w]; rw [c3b0]) | skip)
   by_cases c4 : 0 < (a0.size : Int)
   ·rw [if_pos c4] at H
    have c4b0 := decide_eq_true c4
    have c4b1 : decide (0 < a0.size) = true := decide_eq_true (by omega)
    clear c4
    have H' := Aside0.mk H
    clear H
    have p5 : 0 ≤ (0 : Int) := (by omega)
    have q5 : 0 < a0.size := (by have : (0 : Int) < (a0.size : Int) := od; omega)
    have hx5 : ∀ h : 0 < a0.size, ((a0[0]'h).toNat : Int) = bt a0 0 := bt_at a0 0
    clear p5
    have qi5 : (0 < (a0.size : Int)) = True := eq_true (od)
    replace q5 := eq_true q5
    go_wp2
    go_meet
    case rel => exact ⟨_, (((bt a0 0) != 123)), rs, H', ⟨by first | omega | exact Nat.le_refl _⟩, ⟨by first | exact Kd.R_nil _ _ _ _ _ | exact Kd.N_nil _ _ _ _ _ | exact Kd.V_nil _ _ _ _ _ | exact Kd.Q_nil _ _ _ _ _ | exact Kd.S_nil _ _ _ _ _⟩, ⟨bl⟩⟩
   ·rw [if_neg c4] at H
    exact absurd H (by simp)
 case rest =>
  clear HC2
  try clear p2
  try clear c3
  try clear c3b0
  try clear c3b1
  try clear c4
  try clear c4b0
  try clear c4b1
  try clear p5
  try clear q5
  try clear hx5
  try clear qi5
  try clear p5
  try clear q5
  obtain ⟨kq, x17_1, rfl, HA, HJ1, HO_5, HB⟩ := hcut
  cases kq with
  | zero => exact absurd HA.out (by simp [archivistref06_Parse.j0])
  | succ kj1 =>
   have H := HA.out
   clear HA
   simp only [archivistref06_Parse.j0] at H
   by_cases c6 : x17_1 = true
   ·subst c6
    have H1 : (some (([] : List (S38)), 0, false)) = some (r1, r2, r3) := by rw [if_pos rfl] at H; exact H
    clear H
    have H := H1
    clear H1
    simp only [Option.some.injEq, Prod.mk.injEq] at H
    obtain ⟨rfl, rfl, rfl⟩ := H
    go_wp2
    go_ret3
    exact ⟨_, by first | rfl | (simp [errW_none, errW_some] <;> rfl) | (simp [*, errW_none, errW_some] <;> rfl), by first | exact Kd.R_nil _ _ _ _ _ | exact Kd.N_nil _ _ _ _ _ | exact Kd.V_nil _ _ _ _ _ | exact Kd.Q_nil _ _ _ _ _ | exact Kd.S_nil _ _ _ _ _, bl⟩
   ·replace c6 := Bool.eq_false_iff.mpr c6
    subst c6
    have H1 : (archivistref06_Parse.l0 kj1 a0 ([] : List (S38)) 1) = some (r1, r2, r3) := by rw [if_neg (show ¬ (false = true) by decide)] at H; exact H
    clear H
    have H := H1
    clear H1
    have H' := Aside0.mk H
    clear H
    go_wp2
    go_loopg [5, 6] kj1 (fun kq v5 v6 w' => ∃ (x5_2 : List (S38)) (x6_2 : Int), v6 = .int .i64 x6_2 ∧ Aside0 (archivistref06_Parse.l0 kq a0 x5_2 x6_2 = some (r1, r2, r3)) ∧ Aside0 (kq ≤ kj1) ∧ Aside0 (Kd.R k38 38 w' w.heap.size (fun _ => True) v5 x5_2) ∧ Aside0 (Below w.heap.size w w'))
    case atStart => exact ⟨(([] : List (S38))), (1), rs, H', ⟨Nat.le_refl _⟩, ⟨rz HO_5.out⟩, ⟨bl⟩⟩
    case round =>
     clear H'
     try clear p2
     try clear c3
     try clear c3b0
     try clear c3b1
     try clear c4
     try clear c4b0
     try clear c4b1
     try clear p5
     try clear q5
     try clear hx5
     try clear qi5
     try clear c6
     try clear p2
     try clear p5
     try clear q5
     obtain ⟨x5_2, x6_2, rfl, HA, HK2, HO_5, HB⟩ := hrel
     cases gk with
     | zero => exact absurd HA.out (by simp [archivistref06_Parse.l0])
     | succ k2 =>
      have H := HA.out
      clear HA
      simp only [archivistref06_Parse.l0] at H
      by_cases c7 : (x5_2.length : Int) < 18
      ·rw [if_pos c7] at H
       have c7b0 := decide_eq_true c7
       have c7b1 : decide (x5_2.length < 18) = true := decide_eq_true (by omega)
       clear c7
       have HC8 := Aside0.mk H
       clear H
       obtain ⟨Ao9, co9, eo9⟩ := Kd.R_slice HO_5.out
       subst eo9
       go_upto_region 6 with (fail)
       go_cut [35] (fun v35 wc => ∃ (kq : Nat) (x35_7 : Bool), v35 = .bool x35_7 ∧ Aside0 (archivistref06_Parse.j2 kq a0 x5_2 x6_2 x35_7 = some (r1, r2, r3)) ∧ Aside0 (kq ≤ k2) ∧ Aside0 (Kd.R k38 38 wc w.heap.size (fun _ => True) (.slice Ao9 x5_2.length co9) x5_2) ∧ Aside0 (Below w.heap.size w wc))
       case first =>
        have H := HC8.out
        clear HC8
        by_cases c10 : x6_2 < (a0.size : Int)
        ·rw [if_pos c10] at H
         have c10b0 := decide_eq_true c10
         clear c10
         (first | rw [c10b0] | (simp only [i64_w, i32_w]; rw [c10b0]) | skip)
         by_cases c11 : 0 ≤ x6_2
         ·rw [if_pos c11] at H
          have c11b0 := decide_eq_true c11
          clear c11
          by_cases c13 : (bt a0 x6_2) = 125
          ·rw [if_pos c13] at H
           have c13b0 : ((bt a0 x6_2) == 125) = true := beq_iff_eq.mpr c13
           have c13b1 : ((bt a0 x6_2) != 125) = false := bne_eq_false_iff_eq.mpr c13
           clear c13
           have H' := Aside0.mk H
           clear H
           have p12 : 0 ≤ (x6_2 : Int) := od
           have q12 : x6_2 < (a0.size : Int) := od
           have hx12 := bt_at a0 x6_2
           replace p12 := eq_true p12
           replace q12 := eq_true q12
           go_wp2
           go_meet
           case rel => exact ⟨_, (((x5_2.length : Int) == 0)), rs, (by first | exact H' | (rw [hji44]; exact H')), ⟨by have := HJ1.out; have := HK2.out; first | omega | exact Nat.le_refl _⟩, ⟨rz HO_5.out⟩, ⟨bl⟩⟩
          ·rw [if_neg c13] at H
           have c13b0 : ((bt a0 x6_2) == 125) = false := beq_eq_false_iff_ne.mpr c13
           have c13b1 : ((bt a0 x6_2) != 125) = true := bne_iff_ne.mpr c13
           have H' := Aside0.mk H
           clear H
           have p12 : 0 ≤ (x6_2 : Int) := od
           have q12 : x6_2 < (a0.size : Int) := od
           have hx12 := bt_at a0 x6_2
           replace p12 := eq_true p12
           replace q12 := eq_true q12
           go_wp2
           go_meet
           case rel => exact ⟨_, (false), rs, (by first | exact H' | (rw [hji44]; exact H')), ⟨by have := HJ1.out; have := HK2.out; first | omega | exact Nat.le_refl _⟩, ⟨rz HO_5.out⟩, ⟨bl⟩⟩
         ·rw [if_neg c11] at H
          exact absurd H (by simp)
        ·rw [if_neg c10] at H
         have c10b0 : decide (x6_2 < (a0.size : Int)) = false := decide_eq_false c10
         clear c10
         (first | rw [c10b0] | (simp only [i64_w, i32_w]; rw [c10b0]) | skip)
         have H' := Aside0.mk H
         clear H
         go_wp2
         go_meet
         case rel => exact ⟨_, (false), rs, (by first | exact H' | (rw [hji44]; exact H')), ⟨by have := HJ1.out; have := HK2.out; first | omega | exact Nat.le_refl _⟩, ⟨rz HO_5.out⟩, ⟨bl⟩⟩
       case rest =>
        clear HC8
        try clear c1
        try clear p1
        try clear q1
        try clear hx1
        try clear p2
        try clear c3
        try clear c3b0
        try clear c3b1
        try clear c4
        try clear c4b0
        try clear c4b1
        try clear p5
        try clear q5
        try clear hx5
        try clear qi5
        try clear c6
        try clear c7
        try clear c7b0
        try clear c7b1
        try clear c10
        try clear c10b0
        try clear c11
        try clear c11b0
        try clear p12
        try clear q12
        try clear hx12
        try clear c13
        try clear c13b0
        try clear c13b1
        try clear p12
        try clear p2
        try clear p5
        try clear q12
        try clear q5
        obtain ⟨kq, x35_7, rfl, HA, HJ7, HO_5, HB⟩ := hcut
        cases kq with
        | zero => exact absurd HA.out (by simp [archivistref06_Parse.j2])
        | succ kj7 =>
         have H := HA.out
         clear HA
         simp only [archivistref06_Parse.j2] at H
         by_cases c14 : x35_7 = true
         ·subst c14
          have H1 : ((archivistref06_Right.f kj7 x5_2).bind fun t454 => (if t454 = true then (some (x5_2, wrap64 (x6_2 + 1), true)) else (some (([] : List (S38)), 0, false)))) = some (r1, r2, r3) := by rw [if_pos rfl] at H; exact H
          clear H
          have H := H1
          clear H1
          replace H := Option.bind_eq_some_iff.mp H
          obtain ⟨t454, A150, H⟩ := H
          replace H : (if t454 = true then (some (x5_2, wrap64 (x6_2 + 1), true)) else (some (([] : List (S38)), 0, false))) = some (r1, r2, r3) := H
          have A15 := Aside0.mk A150
          clear A150
          by_cases c16 : t454 = true
          ·subst c16
           have H1 : (some (x5_2, wrap64 (x6_2 + 1), true)) = some (r1, r2, r3) := by rw [if_pos rfl] at H; exact H
           clear H
           have H := H1
           clear H1
           simp only [Option.some.injEq, Prod.mk.injEq] at H
           obtain ⟨rfl, rfl, rfl⟩ := H
           go_wp2_with (first | ((with_reducible refine gate_callee (f := 28) rfl ?_); refine goesL_ (some 115) rfl rfl Try.func28 (by kernel_rfl) rfl #[.slice Ao9 x5_2.length co9] rfl ml ?_; (with_reducible refine (archivistref06_Right.calls _ _ _ _ _ _ ?side1 ?side2 A15.out).mono ?_); (case side1 => exact cz (Kd.R_reads' HO_5.out).2.2); (case side2 => exact (Kd.R_reads' HO_5.out).2.1); rintro e w17 ⟨rfl, hb⟩; refine ⟨_, rfl, ?_⟩; have n0_ := Aside0.mk (Kd.R_below (rz HO_5.out) hb); have n1_ := Aside0.mk (below_step bl hb); clear HO_5; clear HB; have HO_5 := n0_; have HB := n1_; clear n0_ n1_; (try clear hb); (try clear hb2); (try clear hk); (try clear hi)))
           go_ret3
           exact ⟨_, by first | rfl | (simp [errW_none, errW_some] <;> rfl) | (simp [*, errW_none, errW_some] <;> rfl), by (with_reducible repeat (first | apply Kd.R_alloc | apply Kd.R_drewN | apply Kd.R_drew)); exact HO_5.out, bl⟩
          ·replace c16 := Bool.eq_false_iff.mpr c16
           subst c16
           have H1 : (some (([] : List (S38)), 0, false)) = some (r1, r2, r3) := by rw [if_neg (show ¬ (false = true) by decide)] at H; exact H
           clear H
           have H := H1
           clear H1
           simp only [Option.some.injEq, Prod.mk.injEq] at H
           obtain ⟨rfl, rfl, rfl⟩ := H
           go_wp2_with (first | ((with_reducible refine gate_callee (f := 28) rfl ?_); refine goesL_ (some 115) rfl rfl Try.func28 (by kernel_rfl) rfl #[.slice Ao9 x5_2.length co9] rfl ml ?_; (with_reducible refine (archivistref06_Right.calls _ _ _ _ _ _ ?side1 ?side2 A15.out).mono ?_); (case side1 => exact cz (Kd.R_reads' HO_5.out).2.2); (case side2 => exact (Kd.R_reads' HO_5.out).2.1); rintro e w18 ⟨rfl, hb⟩; refine ⟨_, rfl, ?_⟩; have n0_ := Aside0.mk (Kd.R_below (rz HO_5.out) hb); have n1_ := Aside0.mk (below_step bl hb); clear HO_5; clear HB; have HO_5 := n0_; have HB := n1_; clear n0_ n1_; (try clear hb); (try clear hb2); (try clear hk); (try clear hi)))
           go_ret3
           exact ⟨_, by first | rfl | (simp [errW_none, errW_some] <;> rfl) | (simp [*, errW_none, errW_some] <;> rfl), by first | exact Kd.R_nil _ _ _ _ _ | exact Kd.N_nil _ _ _ _ _ | exact Kd.V_nil _ _ _ _ _ | exact Kd.Q_nil _ _ _ _ _ | exact Kd.S_nil _ _ _ _ _, bl⟩
         ·replace c14 := Bool.eq_false_iff.mpr c14
          subst c14
          have H1 : (archivistref06_Parse.l1 kj7 a0 x5_2 x6_2 x6_2) = some (r1, r2, r3) := by rw [if_neg (show ¬ (false = true) by decide)] at H; exact H
          clear H
          have H := H1
          clear H1
          have HC19 := Aside0.mk H
          clear H
          go_upto_block 2 with (fail)
          go_cut [7] (fun v7 wc => ∃ (kq : Nat) (x7_18 : Int), v7 = .int .i64 x7_18 ∧ Aside0 (archivistref06_Parse.j4 kq a0 x5_2 x6_2 x7_18 = some (r1, r2, r3)) ∧ Aside0 (kq ≤ kj7) ∧ Aside0 (Kd.R k38 38 wc w.heap.size (fun _ => True) (.slice Ao9 x5_2.length co9) x5_2) ∧ Aside0 (Below w.heap.size w wc))
          case first =>
           have H := HC19.out
           clear HC19
           have H' := Aside0.mk H
           clear H
           go_wp2
           go_loopg [7] kj7 (fun kq v7 w' => ∃ (x7_4 : Int), v7 = .int .i64 x7_4 ∧ Aside0 (archivistref06_Parse.l1 kq a0 x5_2 x6_2 x7_4 = some (r1, r2, r3)) ∧ Aside0 (kq ≤ kj7) ∧ Aside0 (Kd.R k38 38 w' w.heap.size (fun _ => True) (.slice Ao9 x5_2.length co9) x5_2) ∧ Aside0 (Below w.heap.size w w'))
           case atStart => exact ⟨(x6_2), rs, H', ⟨Nat.le_refl _⟩, ⟨rz HO_5.out⟩, ⟨bl⟩⟩
           case round =>
            clear H'
            try clear c1
            try clear p1
            try clear q1
            try clear hx1
            try clear c2
            try clear p2
            try clear c3
            try clear c3b0
            try clear c3b1
            try clear c4
            try clear c4b0
            try clear c4b1
            try clear p5
            try clear q5
            try clear hx5
            try clear qi5
            try clear c6
            try clear p6
            try clear c7
            try clear c7b0
            try clear c7b1
            try clear c10
            try clear c10b0
            try clear c11
            try clear c11b0
            try clear p12
            try clear q12
            try clear hx12
            try clear c13
            try clear c13b0
            try clear c13b1
            try clear c14
            try clear c16
            try clear p1
            try clear p12
            try clear p2
            try clear p5
            try clear q1
            try clear q12
            try clear q5
            obtain ⟨x7_4, rfl, HA, HK4, HO_5, HB⟩ := hrel
            cases gk with
            | zero => exact absurd HA.out (by simp [archivistref06_Parse.l1])
            | succ k4 =>
             have H := HA.out
             clear HA
             simp only [archivistref06_Parse.l1] at H
             by_cases c20 : x7_4 < (a0.size : Int)
             ·rw [if_pos c20] at H
              have c20b0 := decide_eq_true c20
              clear c20
              (first | rw [c20b0] | (simp only [i64_w, i32_w]; rw [c20b0]) | skip)
              by_cases c21 : 0 ≤ x7_4
              ·rw [if_pos c21] at H
               have c21b0 := decide_eq_true c21
               clear c21
               by_cases c23 : (bt a0 x7_4) = 61
               ·rw [if_pos c23] at H
                have c23b0 : ((bt a0 x7_4) == 61) = true := beq_iff_eq.mpr c23
                have c23b1 : ((bt a0 x7_4) != 61) = false := bne_eq_false_iff_eq.mpr c23
                clear c23
                have H' := Aside0.mk H
                clear H
                have p22 : 0 ≤ (x7_4 : Int) := od
                have q22 : x7_4 < (a0.size : Int) := od
                have hx22 := bt_at a0 x7_4
                replace p22 := eq_true p22
                replace q22 := eq_true q22
                go_wp2
                go_meet
                case rel => exact ⟨_, (x7_4), rs, (by first | exact H' | (rw [hji44]; exact H')), ⟨by have := HJ1.out; have := HK2.out; have := HJ7.out; have := HK4.out; first | omega | exact Nat.le_refl _⟩, ⟨rz HO_5.out⟩, ⟨bl⟩⟩
               ·rw [if_neg c23] at H
                have c23b0 : ((bt a0 x7_4) == 61) = false := beq_eq_false_iff_ne.mpr c23
                have c23b1 : ((bt a0 x7_4) != 61) = true := bne_iff_ne.mpr c23
                by_cases c24 : x7_4 < (wrap64 (x6_2 + 33))
                ·rw [if_pos c24] at H
                 have c24b0 := decide_eq_true c24
                 clear c24
                 have H' := Aside0.mk H
                 clear H
                 have p22 : 0 ≤ (x7_4 : Int) := od
                 have q22 : x7_4 < (a0.size : Int) := od
                 have hx22 := bt_at a0 x7_4
                 replace p22 := eq_true p22
                 replace q22 := eq_true q22
                 go_wp2
                 go_roundg k4
                 case measure => have := HJ1.out; have := HK2.out; have := HJ7.out; have := HK4.out; omega
                 case rel => exact ⟨(wrap64 (x7_4 + 1)), rs, (by first | exact H' | (rw [hji44]; exact H')), ⟨by have := HJ1.out; have := HK2.out; have := HJ7.out; have := HK4.out; omega⟩, ⟨rz HO_5.out⟩, ⟨bl⟩⟩
                ·rw [if_neg c24] at H
                 have c24b0 : decide (x7_4 < (wrap64 (x6_2 + 33))) = false := decide_eq_false c24
                 clear c24
                 have H' := Aside0.mk H
                 clear H
                 have p22 : 0 ≤ (x7_4 : Int) := od
                 have q22 : x7_4 < (a0.size : Int) := od
                 have hx22 := bt_at a0 x7_4
                 replace p22 := eq_true p22
                 replace q22 := eq_true q22
                 go_wp2
                 go_meet
                 case rel => exact ⟨_, (x7_4), rs, (by first | exact H' | (rw [hji44]; exact H')), ⟨by have := HJ1.out; have := HK2.out; have := HJ7.out; have := HK4.out; first | omega | exact Nat.le_refl _⟩, ⟨rz HO_5.out⟩, ⟨bl⟩⟩
              ·rw [if_neg c21] at H
               exact absurd H (by simp)
             ·rw [if_neg c20] at H
              have c20b0 : decide (x7_4 < (a0.size : Int)) = false := decide_eq_false c20
              clear c20
              (first | rw [c20b0] | (simp only [i64_w, i32_w]; rw [c20b0]) | skip)
              have H' := Aside0.mk H
              clear H
              go_wp2
              go_meet
              case rel => exact ⟨_, (x7_4), rs, (by first | exact H' | (rw [hji44]; exact H')), ⟨by have := HJ1.out; have := HK2.out; have := HJ7.out; have := HK4.out; first | omega | exact Nat.le_refl _⟩, ⟨rz HO_5.out⟩, ⟨bl⟩⟩
          case rest =>
           clear HC19
           try clear c1
           try clear p1
           try clear q1
           try clear hx1
           try clear c2
           try clear p2
           try clear q2
           try clear hx2
           try clear c3
           try clear c3b0
           try clear c3b1
           try clear c4
           try clear c4b0
           try clear c4b1
           try clear p5
           try clear q5
           try clear hx5
           try clear qi5
           try clear c6
           try clear p6
           try clear c7
           try clear c7b0
           try clear c7b1
           try clear c10
           try clear c10b0
           try clear c11
           try clear c11b0
           try clear p12
           try clear q12
           try clear hx12
           try clear c13
           try clear c13b0
           try clear c13b1
           try clear c14
           try clear c16
           try clear c20
           try clear c20b0
           try clear c21
           try clear c21b0
           try clear p22
           try clear q22
           try clear hx22
           try clear c23
           try clear c23b0
           try clear c23b1
           try clear c24
           try clear c24b0
           try clear p1
           try clear p12
           try clear p2
           try clear p22
           try clear p5
           try clear p6
           try clear q1
           try clear q12
           try clear q22
           try clear q5
           obtain ⟨kq, x7_18, rfl, HA, HJ18, HO_5, HB⟩ := hcut
           cases kq with
           | zero => exact absurd HA.out (by simp [archivistref06_Parse.j4])
           | succ kj18 =>
            have H := HA.out
            clear HA
            simp only [archivistref06_Parse.j4] at H
            have HC25 := Aside0.mk H
            clear H
            go_upto_region 11 with (fail)
            go_cut [66] (fun v66 wc => ∃ (kq : Nat) (x66_24 : Bool), v66 = .bool x66_24 ∧ Aside0 (archivistref06_Parse.j5 kq a0 x5_2 x6_2 x7_18 x66_24 = some (r1, r2, r3)) ∧ Aside0 (kq ≤ kj18) ∧ Aside0 (Kd.R k38 38 wc w.heap.size (fun _ => True) (.slice Ao9 x5_2.length co9) x5_2) ∧ Aside0 (Below w.heap.size w wc))
            case first =>
             have H := HC25.out
             clear HC25
             by_cases c26 : x7_18 ≥ (a0.size : Int)
             ·rw [if_pos c26] at H
              have c26b0 := decide_eq_true c26
              clear c26
              (first | rw [c26b0] | (simp only [i64_w, i32_w]; rw [c26b0]) | skip)
              have H' := Aside0.mk H
              clear H
              go_wp2
              go_meet
              case rel => exact ⟨_, (true), rs, (by first | exact H' | (rw [hji44]; exact H')), ⟨by have := HJ1.out; have := HK2.out; have := HJ7.out; have := HJ18.out; first | omega | exact Nat.le_refl _⟩, ⟨rz HO_5.out⟩, ⟨bl⟩⟩
             ·rw [if_neg c26] at H
              have c26b0 : decide ((a0.size : Int) ≤ x7_18) = false := decide_eq_false c26
              clear c26
              (first | rw [c26b0] | (simp only [i64_w, i32_w]; rw [c26b0]) | skip)
              by_cases c27 : 0 ≤ x7_18
              ·rw [if_pos c27] at H
               have c27b0 := decide_eq_true c27
               clear c27
               by_cases c28 : x7_18 < (a0.size : Int)
               ·rw [if_pos c28] at H
                have c28b0 := decide_eq_true c28
                clear c28
                have H' := Aside0.mk H
                clear H
                have p29 : 0 ≤ (x7_18 : Int) := od
                have q29 : x7_18 < (a0.size : Int) := od
                have hx29 := bt_at a0 x7_18
                replace p29 := eq_true p29
                replace q29 := eq_true q29
                go_wp2
                go_meet
                case rel => exact ⟨_, (((bt a0 x7_18) != 61)), rs, (by first | exact H' | (rw [hji44]; exact H')), ⟨by have := HJ1.out; have := HK2.out; have := HJ7.out; have := HJ18.out; first | omega | exact Nat.le_refl _⟩, ⟨rz HO_5.out⟩, ⟨bl⟩⟩
               ·rw [if_neg c28] at H
                exact absurd H (by simp)
              ·rw [if_neg c27] at H
               exact absurd H (by simp)
            case rest =>
             clear HC25
             try clear c1
             try clear p1
             try clear q1
             try clear hx1
             try clear c2
             try clear p2
             try clear q2
             try clear hx2
             try clear c3
             try clear c3b0
             try clear c3b1
             try clear c4
             try clear c4b0
             try clear c4b1
             try clear p5
             try clear q5
             try clear hx5
             try clear qi5
             try clear c6
             try clear p6
             try clear c7
             try clear c7b0
             try clear c7b1
             try clear c10
             try clear c10b0
             try clear c11
             try clear c11b0
             try clear p12
             try clear q12
             try clear hx12
             try clear c13
             try clear c13b0
             try clear c13b1
             try clear c14
             try clear c16
             try clear c20
             try clear c20b0
             try clear c21
             try clear c21b0
             try clear p22
             try clear q22
             try clear hx22
             try clear c23
             try clear c23b0
             try clear c23b1
             try clear c24
             try clear c24b0
             try clear c26
             try clear c26b0
             try clear c27
             try clear c27b0
             try clear c28
             try clear c28b0
             try clear p29
             try clear q29
             try clear hx29
             try clear p1
             try clear p12
             try clear p2
             try clear p22
             try clear p29
             try clear p5
             try clear p6
             try clear q1
             try clear q12
             try clear q2
             try clear q22
             try clear q29
             try clear q5
             obtain ⟨kq, x66_24, rfl, HA, HJ24, HO_5, HB⟩ := hcut
             cases kq with
             | zero => exact absurd HA.out (by simp [archivistref06_Parse.j5])
             | succ kj24 =>
              have H := HA.out
              clear HA
              simp only [archivistref06_Parse.j5] at H
              by_cases c30 : x66_24 = true
              ·subst c30
               have H1 : (some (([] : List (S38)), 0, false)) = some (r1, r2, r3) := by rw [if_pos rfl] at H; exact H
               clear H
               have H := H1
               clear H1
               simp only [Option.some.injEq, Prod.mk.injEq] at H
               obtain ⟨rfl, rfl, rfl⟩ := H
               go_wp2
               go_ret3
               exact ⟨_, by first | rfl | (simp [errW_none, errW_some] <;> rfl) | (simp [*, errW_none, errW_some] <;> rfl), by first | exact Kd.R_nil _ _ _ _ _ | exact Kd.N_nil _ _ _ _ _ | exact Kd.V_nil _ _ _ _ _ | exact Kd.Q_nil _ _ _ _ _ | exact Kd.S_nil _ _ _ _ _, bl⟩
              ·replace c30 := Bool.eq_false_iff.mpr c30
               subst c30
               have H1 : (if 0 ≤ (wrap64 (x7_18 + 1)) then (if (wrap64 (x7_18 + 1)) ≤ (a0.size : Int) then ((archivistref01_Get.f kj24 (a0.extract ((wrap64 (x7_18 + 1)) : Int).toNat a0.size)).bind fun bt455 => (if bt455.2.2 = true then (if 0 ≤ x6_2 then (if x6_2 ≤ x7_18 then (if x7_18 ≤ (a0.size : Int) then (if x5_2.length < 4398046511104 then ((some (x5_2 ++ [(⟨a0.extract (x6_2 : Int).toNat (x7_18 : Int).toNat, bt455.1⟩ : S38)] : List (S38))).bind fun y458 => (if (wrap64 ((wrap64 (x7_18 + 1)) + bt455.2.1)) ≥ (a0.size : Int) then (archivistref06_Parse.j6 kj24 a0 y458 (wrap64 ((wrap64 (x7_18 + 1)) + bt455.2.1)) true) else (if 0 ≤ (wrap64 ((wrap64 (x7_18 + 1)) + bt455.2.1)) then (if (wrap64 ((wrap64 (x7_18 + 1)) + bt455.2.1)) < (a0.size : Int) then (if (bt a0 (wrap64 ((wrap64 (x7_18 + 1)) + bt455.2.1))) = 44 then (archivistref06_Parse.j6 kj24 a0 y458 (wrap64 ((wrap64 (x7_18 + 1)) + bt455.2.1)) false) else (archivistref06_Parse.j6 kj24 a0 y458 (wrap64 ((wrap64 (x7_18 + 1)) + bt455.2.1)) ((bt a0 (wrap64 ((wrap64 (x7_18 + 1)) + bt455.2.1))) != 125))) else (none)) else (none)))) else (none)) else (none)) else (none)) else (none)) else (some (([] : List (S38)), 0, false)))) else (none)) else (none)) = some (r1, r2, r3) := by rw [if_neg (show ¬ (false = true) by decide)] at H; exact H
               clear H
               have H := H1
               clear H1
               obtain ⟨ji31, hji31⟩ : ∃ j_ : Int, (wrap64 (x7_18 + 1)) = j_ := ⟨_, rfl⟩
               replace H : (if 0 ≤ (ji31) then (if (ji31) ≤ (a0.size : Int) then ((archivistref01_Get.f kj24 (a0.extract ((ji31) : Int).toNat a0.size)).bind fun bt455 => (if bt455.2.2 = true then (if 0 ≤ x6_2 then (if x6_2 ≤ x7_18 then (if x7_18 ≤ (a0.size : Int) then (if x5_2.length < 4398046511104 then ((some (x5_2 ++ [(⟨a0.extract (x6_2 : Int).toNat (x7_18 : Int).toNat, bt455.1⟩ : S38)] : List (S38))).bind fun y458 => (if (wrap64 ((ji31) + bt455.2.1)) ≥ (a0.size : Int) then (archivistref06_Parse.j6 kj24 a0 y458 (wrap64 ((ji31) + bt455.2.1)) true) else (if 0 ≤ (wrap64 ((ji31) + bt455.2.1)) then (if (wrap64 ((ji31) + bt455.2.1)) < (a0.size : Int) then (if (bt a0 (wrap64 ((ji31) + bt455.2.1))) = 44 then (archivistref06_Parse.j6 kj24 a0 y458 (wrap64 ((ji31) + bt455.2.1)) false) else (archivistref06_Parse.j6 kj24 a0 y458 (wrap64 ((ji31) + bt455.2.1)) ((bt a0 (wrap64 ((ji31) + bt455.2.1))) != 125))) else (none)) else (none)))) else (none)) else (none)) else (none)) else (none)) else (some (([] : List (S38)), 0, false)))) else (none)) else (none)) = some (r1, r2, r3) := by first | (rw [hji31] at H; exact H) | (simp only [hji31] at H ⊢; exact H)
               have hji31w : (IntKind.i64.wrap (x7_18 + 1)) = ji31 := (i64_w _).trans hji31
               by_cases c32 : 0 ≤ (ji31)
               ·rw [if_pos c32] at H
                have c32b0 := eq_true c32
                have c32b1 : decide (0 ≤ (ji31)) = true := decide_eq_true c32
                clear c32
                by_cases c33 : (ji31) ≤ (a0.size : Int)
                ·rw [if_pos c33] at H
                 have c33b0 := eq_true c33
                 have c33b1 : decide ((ji31) ≤ (a0.size : Int)) = true := decide_eq_true c33
                 clear c33
                 replace H := Option.bind_eq_some_iff.mp H
                 obtain ⟨⟨t455, t456, t457⟩, A340, H⟩ := H
                 replace H : (if t457 = true then (if 0 ≤ x6_2 then (if x6_2 ≤ x7_18 then (if x7_18 ≤ (a0.size : Int) then (if x5_2.length < 4398046511104 then ((some (x5_2 ++ [(⟨a0.extract (x6_2 : Int).toNat (x7_18 : Int).toNat, t455⟩ : S38)] : List (S38))).bind fun y458 => (if (wrap64 ((ji31) + t456)) ≥ (a0.size : Int) then (archivistref06_Parse.j6 kj24 a0 y458 (wrap64 ((ji31) + t456)) true) else (if 0 ≤ (wrap64 ((ji31) + t456)) then (if (wrap64 ((ji31) + t456)) < (a0.size : Int) then (if (bt a0 (wrap64 ((ji31) + t456))) = 44 then (archivistref06_Parse.j6 kj24 a0 y458 (wrap64 ((ji31) + t456)) false) else (archivistref06_Parse.j6 kj24 a0 y458 (wrap64 ((ji31) + t456)) ((bt a0 (wrap64 ((ji31) + t456))) != 125))) else (none)) else (none)))) else (none)) else (none)) else (none)) else (none)) else (some (([] : List (S38)), 0, false))) = some (r1, r2, r3) := H
                 have A34 := Aside0.mk A340
                 clear A340
                 by_cases c35 : t457 = true
                 ·subst c35
                  have H1 : (if 0 ≤ x6_2 then (if x6_2 ≤ x7_18 then (if x7_18 ≤ (a0.size : Int) then (if x5_2.length < 4398046511104 then ((some (x5_2 ++ [(⟨a0.extract (x6_2 : Int).toNat (x7_18 : Int).toNat, t455⟩ : S38)] : List (S38))).bind fun y458 => (if (wrap64 ((ji31) + t456)) ≥ (a0.size : Int) then (archivistref06_Parse.j6 kj24 a0 y458 (wrap64 ((ji31) + t456)) true) else (if 0 ≤ (wrap64 ((ji31) + t456)) then (if (wrap64 ((ji31) + t456)) < (a0.size : Int) then (if (bt a0 (wrap64 ((ji31) + t456))) = 44 then (archivistref06_Parse.j6 kj24 a0 y458 (wrap64 ((ji31) + t456)) false) else (archivistref06_Parse.j6 kj24 a0 y458 (wrap64 ((ji31) + t456)) ((bt a0 (wrap64 ((ji31) + t456))) != 125))) else (none)) else (none)))) else (none)) else (none)) else (none)) else (none)) = some (r1, r2, r3) := by rw [if_pos rfl] at H; exact H
                  clear H
                  have H := H1
                  clear H1
                  by_cases c36 : 0 ≤ x6_2
                  ·rw [if_pos c36] at H
                   have c36b0 := eq_true c36
                   have c36b1 : decide (0 ≤ x6_2) = true := decide_eq_true c36
                   clear c36
                   by_cases c37 : x6_2 ≤ x7_18
                   ·rw [if_pos c37] at H
                    have c37b0 := eq_true c37
                    have c37b1 : decide (x6_2 ≤ x7_18) = true := decide_eq_true c37
                    clear c37
                    by_cases c38 : x7_18 ≤ (a0.size : Int)
                    ·rw [if_pos c38] at H
                     have c38b0 := eq_true c38
                     have c38b1 : decide (x7_18 ≤ (a0.size : Int)) = true := decide_eq_true c38
                     clear c38
                     by_cases c39 : x5_2.length < 4398046511104
                     ·rw [if_pos c39] at H
                      have LMc39 := Aside0.mk c39
                      clear c39
                      obtain ⟨y458, hy458⟩ : ∃ y_ : List (S38), y_ = (x5_2 ++ [(⟨a0.extract (x6_2 : Int).toNat (x7_18 : Int).toNat, t455⟩ : S38)]) := ⟨_, rfl⟩
                      replace H : (if (wrap64 ((ji31) + t456)) ≥ (a0.size : Int) then (archivistref06_Parse.j6 kj24 a0 y458 (wrap64 ((ji31) + t456)) true) else (if 0 ≤ (wrap64 ((ji31) + t456)) then (if (wrap64 ((ji31) + t456)) < (a0.size : Int) then (if (bt a0 (wrap64 ((ji31) + t456))) = 44 then (archivistref06_Parse.j6 kj24 a0 y458 (wrap64 ((ji31) + t456)) false) else (archivistref06_Parse.j6 kj24 a0 y458 (wrap64 ((ji31) + t456)) ((bt a0 (wrap64 ((ji31) + t456))) != 125))) else (none)) else (none))) = some (r1, r2, r3) := by first | (rw [hy458]; with_reducible exact H) | (have H2_ := (Option.bind_some _ _).symm.trans H; rw [hy458]; with_reducible exact H2_) | (have H2_ := (Option.bind_some _ _).symm.trans H; with_reducible exact H2_) | with_reducible exact H | (rw [hy458]; exact H) | exact H
                      have Ny458 := Aside0.mk hy458
                      clear hy458
                      have HC40 := Aside0.mk H
                      clear H
                      go_upto_region 18 with (first | ((with_reducible refine gate_callee (f := 68) rfl ?_); refine goesL_ (some 72) rfl rfl Try.func68 (by kernel_rfl) rfl #[.string (a0.extract ((ji31) : Int).toNat a0.size)] rfl (by (try simp only [List.map_toArray, List.map_cons, List.map_nil]); first | done | (simp only [hji31]; rfl) | rfl | (simp only [List.length_drop, List.length_take]; rfl)) ?_; (with_reducible refine (archivistref01_Get.calls _ _ _ _ _ _ A34.out).mono ?_); rintro e w41 ⟨rfl, hb⟩; refine ⟨_, rfl, ?_⟩; have n0_ := Aside0.mk (Kd.R_below (rz HO_5.out) hb); have n1_ := Aside0.mk (below_step bl hb); clear HO_5; clear HB; have HO_5 := n0_; have HB := n1_; clear n0_ n1_; (try clear hb); (try clear hb2); (try clear hk); (try clear hi)) | ((with_reducible refine gate_builtin (b := .append) (xs := #[.tmp 78, .tmp 85]) rfl ?_); (try (refine gate_guard (by rfl) ?_; dsimp only)); at_builtin; refine Kd.R_append k38 (w0 := w) w.heap.size rfl (.tmp 78) (.tmp 85) 26 38 (.agg #[(.string ⟨#[]⟩), (.string ⟨#[]⟩)]) 32 rfl Try.underlying26 info38 rfl (by decide) (by omega) (.slice Ao9 x5_2.length co9) x5_2 (⟨a0.extract (x6_2 : Int).toNat (x7_18 : Int).toNat, t455⟩ : S38) [.string (a0.extract (x6_2 : Int).toNat (x7_18 : Int).toNat), .string t455] (fun _ => True) (fun _ => False) rfl rfl ?aP (fun _ hk => hk.elim) ?aF ?aO ?aB ?aS ?aL ?_; (case aP => exact k38_mkM _ _ _ (⟨a0.extract (x6_2 : Int).toNat (x7_18 : Int).toNat, t455⟩ : S38)); (case aB => exact bl); (case aF => exact (fun _ _ => trivial)); (case aO => exact (rz HO_5.out)); (case aS => exact (below_size bl)); (case aL => have := LMc39.out; omega); intro v459 w42 ho hb hg hat; rw [← Ny458.out] at ho; have n0_ := Aside0.mk (hb); have n1_ := Aside0.mk (ho); clear HB; clear HO_5; have HB := n0_; have HO460 := n1_; clear n0_ n1_; clear ho hb hg hat))
                      (try simp only [Act.put, List.setIfInBounds_toArray, List.set_cons_zero, List.set_cons_succ])
                      go_cut [106] (fun v106 wc => ∃ (kq : Nat) (x106_39 : Bool), v106 = .bool x106_39 ∧ Aside0 (archivistref06_Parse.j6 kq a0 y458 (wrap64 ((ji31) + t456)) x106_39 = some (r1, r2, r3)) ∧ Aside0 (kq ≤ kj24) ∧ Aside0 (Kd.R k38 38 wc w.heap.size (fun _ => True) v459 y458) ∧ Aside0 (Below w.heap.size w wc))
                      case first =>
                       have H := HC40.out
                       clear HC40
                       by_cases c43 : (wrap64 ((ji31) + t456)) ≥ (a0.size : Int)
                       ·rw [if_pos c43] at H
                        have c43b0 := decide_eq_true c43
                        clear c43
                        (first | rw [c43b0] | (simp only [i64_w, i32_w]; rw [c43b0]) | skip)
                        have H' := Aside0.mk H
                        clear H
                        go_wp2
                        go_meet
                        case rel => exact ⟨_, (true), rs, (by first | exact H' | (rw [hji44]; exact H')), ⟨by have := HJ1.out; have := HK2.out; have := HJ7.out; have := HJ18.out; have := HJ24.out; first | omega | exact Nat.le_refl _⟩, ⟨rz HO460.out⟩, ⟨bl⟩⟩
                       ·rw [if_neg c43] at H
                        have c43b0 : decide ((a0.size : Int) ≤ (wrap64 ((ji31) + t456))) = false := decide_eq_false c43
                        clear c43
                        (first | rw [c43b0] | (simp only [i64_w, i32_w]; rw [c43b0]) | skip)
                        obtain ⟨ji44, hji44⟩ : ∃ j_ : Int, (wrap64 ((ji31) + t456)) = j_ := ⟨_, rfl⟩
                        replace H : (if 0 ≤ (ji44) then (if (ji44) < (a0.size : Int) then (if (bt a0 (ji44)) = 44 then (archivistref06_Parse.j6 kj24 a0 y458 ji44 false) else (archivistref06_Parse.j6 kj24 a0 y458 ji44 ((bt a0 (ji44)) != 125))) else (none)) else (none)) = some (r1, r2, r3) := by first | (rw [hji44] at H; exact H) | (simp only [hji44] at H ⊢; exact H)
                        (try rw [hji44] at c43b0)
                        have hji44w : (IntKind.i64.wrap ((ji31) + t456)) = ji44 := (i64_w _).trans hji44
                        by_cases c45 : 0 ≤ (ji44)
                        ·rw [if_pos c45] at H
                         have c45b0 := decide_eq_true c45
                         clear c45
                         by_cases c46 : (ji44) < (a0.size : Int)
                         ·rw [if_pos c46] at H
                          have c46b0 := decide_eq_true c46
                          clear c46
                          by_cases c48 : (bt a0 (ji44)) = 44
                          ·rw [if_pos c48] at H
                           have c48b0 : ((bt a0 (ji44)) == 44) = true := beq_iff_eq.mpr c48
                           have c48b1 : ((bt a0 (ji44)) != 44) = false := bne_eq_false_iff_eq.mpr c48
                           clear c48
                           have H' := Aside0.mk H
                           clear H
                           have p47 : 0 ≤ ((ji44) : Int) := od
                           have q47 : (ji44) < (a0.size : Int) := od
                           have hx47 := bt_at a0 (ji44)
                           replace p47 := eq_true p47
                           replace q47 := eq_true q47
                           go_wp2
                           go_meet
                           case rel => exact ⟨_, (false), rs, (by first | exact H' | (rw [hji44]; exact H')), ⟨by have := HJ1.out; have := HK2.out; have := HJ7.out; have := HJ18.out; have := HJ24.out; first | omega | exact Nat.le_refl _⟩, ⟨rz HO460.out⟩, ⟨bl⟩⟩
                          ·rw [if_neg c48] at H
                           have c48b0 : ((bt a0 (ji44)) == 44) = false := beq_eq_false_iff_ne.mpr c48
                           have c48b1 : ((bt a0 (ji44)) != 44) = true := bne_iff_ne.mpr c48
                           have H' := Aside0.mk H
                           clear H
                           have p47 : 0 ≤ ((ji44) : Int) := od
                           have q47 : (ji44) < (a0.size : Int) := od
                           have hx47 := bt_at a0 (ji44)
                           replace p47 := eq_true p47
                           replace q47 := eq_true q47
                           have p49 : 0 ≤ ((ji44) : Int) := od
                           have q49 : (ji44) < (a0.size : Int) := od
                           have hx49 := bt_at a0 (ji44)
                           replace p49 := eq_true p49
                           replace q49 := eq_true q49
                           go_wp2
                           go_meet
                           case rel => exact ⟨_, (((bt a0 (ji44)) != 125)), (by first | rfl | (simp; done) | (simp only [← hji44] <;> (first | rfl | simp)) | (simp [*]; done)), (by first | exact H' | (rw [hji44]; exact H')), ⟨by have := HJ1.out; have := HK2.out; have := HJ7.out; have := HJ18.out; have := HJ24.out; first | omega | exact Nat.le_refl _⟩, ⟨rz HO460.out⟩, ⟨bl⟩⟩
                         ·rw [if_neg c46] at H
                          exact absurd H (by simp)
                        ·rw [if_neg c45] at H
                         exact absurd H (by simp)
                      case rest =>
                       clear HC40
                       try clear c1
                       try clear p1
                       try clear q1
                       try clear hx1
                       try clear c2
                       try clear p2
                       try clear q2
                       try clear hx2
                       try clear c3
                       try clear c3b0
                       try clear c3b1
                       try clear c4
                       try clear c4b0
                       try clear c4b1
                       try clear p4
                       try clear q4
                       try clear hx4
                       try clear p5
                       try clear q5
                       try clear hx5
                       try clear qi5
                       try clear c6
                       try clear p6
                       try clear c7
                       try clear c7b0
                       try clear c7b1
                       try clear c10
                       try clear c10b0
                       try clear c11
                       try clear c11b0
                       try clear p12
                       try clear q12
                       try clear hx12
                       try clear c13
                       try clear c13b0
                       try clear c13b1
                       try clear c14
                       try clear c16
                       try clear c20
                       try clear c20b0
                       try clear c21
                       try clear c21b0
                       try clear p22
                       try clear q22
                       try clear hx22
                       try clear c23
                       try clear c23b0
                       try clear c23b1
                       try clear c24
                       try clear c24b0
                       try clear c26
                       try clear c26b0
                       try clear c27
                       try clear c27b0
                       try clear c28
                       try clear c28b0
                       try clear p29
                       try clear q29
                       try clear hx29
                       try clear c30
                       try clear c32
                       try clear c32b0
                       try clear c32b1
                       try clear c33
                       try clear c33b0
                       try clear c33b1
                       try clear c35
                       try clear c36
                       try clear c36b0
                       try clear c36b1
                       try clear c37
                       try clear c37b0
                       try clear c37b1
                       try clear c38
                       try clear c38b0
                       try clear c38b1
                       try clear c39
                       try clear c43
                       try clear c43b0
                       try clear c45
                       try clear c45b0
                       try clear c46
                       try clear c46b0
                       try clear p47
                       try clear q47
                       try clear hx47
                       try clear c48
                       try clear c48b0
                       try clear c48b1
                       try clear p49
                       try clear q49
                       try clear hx49
                       try clear p1
                       try clear p12
                       try clear p2
                       try clear p22
                       try clear p29
                       try clear p47
                       try clear p49
                       try clear p5
                       try clear p6
                       try clear q1
                       try clear q12
                       try clear q2
                       try clear q22
                       try clear q29
                       try clear q47
                       try clear q49
                       try clear q5
                       obtain ⟨kq, x106_39, rfl, HA, HJ39, HO_5, HB⟩ := hcut
                       cases kq with
                       | zero => exact absurd HA.out (by simp [archivistref06_Parse.j6])
                       | succ kj39 =>
                        have H := HA.out
                        clear HA
                        simp only [archivistref06_Parse.j6] at H
                        by_cases c50 : x106_39 = true
                        ·subst c50
                         have H1 : (some (([] : List (S38)), 0, false)) = some (r1, r2, r3) := by rw [if_pos rfl] at H; exact H
                         clear H
                         have H := H1
                         clear H1
                         simp only [Option.some.injEq, Prod.mk.injEq] at H
                         obtain ⟨rfl, rfl, rfl⟩ := H
                         go_wp2
                         go_ret3
                         exact ⟨_, by first | rfl | (simp [errW_none, errW_some] <;> rfl) | (simp only [← hji31]; first | rfl | (simp [errW_none, errW_some] <;> rfl)) | (simp [*, errW_none, errW_some] <;> rfl), by first | exact Kd.R_nil _ _ _ _ _ | exact Kd.N_nil _ _ _ _ _ | exact Kd.V_nil _ _ _ _ _ | exact Kd.Q_nil _ _ _ _ _ | exact Kd.S_nil _ _ _ _ _, bl⟩
                        ·replace c50 := Bool.eq_false_iff.mpr c50
                         subst c50
                         have H1 : (if 0 ≤ (wrap64 ((wrap64 ((wrap64 ((ji31) + t456)) + 1)) - 1)) then (if (wrap64 ((wrap64 ((wrap64 ((ji31) + t456)) + 1)) - 1)) < (a0.size : Int) then (if (bt a0 (wrap64 ((wrap64 ((wrap64 ((ji31) + t456)) + 1)) - 1))) = 125 then ((archivistref06_Right.f kj39 y458).bind fun t461 => (if t461 = true then (some (y458, wrap64 ((wrap64 ((ji31) + t456)) + 1), true)) else (some (([] : List (S38)), 0, false)))) else (archivistref06_Parse.l0 kj39 a0 y458 (wrap64 ((wrap64 ((ji31) + t456)) + 1)))) else (none)) else (none)) = some (r1, r2, r3) := by rw [if_neg (show ¬ (false = true) by decide)] at H; exact H
                         clear H
                         have H := H1
                         clear H1
                         obtain ⟨ji51, hji51⟩ : ∃ j_ : Int, (wrap64 ((wrap64 ((wrap64 ((ji31) + t456)) + 1)) - 1)) = j_ := ⟨_, rfl⟩
                         replace H : (if 0 ≤ (ji51) then (if (ji51) < (a0.size : Int) then (if (bt a0 (ji51)) = 125 then ((archivistref06_Right.f kj39 y458).bind fun t461 => (if t461 = true then (some (y458, wrap64 ((wrap64 ((ji31) + t456)) + 1), true)) else (some (([] : List (S38)), 0, false)))) else (archivistref06_Parse.l0 kj39 a0 y458 (wrap64 ((wrap64 ((ji31) + t456)) + 1)))) else (none)) else (none)) = some (r1, r2, r3) := by first | (rw [hji51] at H; exact H) | (simp only [hji51] at H ⊢; exact H)
                         have hji51w : (IntKind.i64.wrap ((wrap64 ((wrap64 ((ji31) + t456)) + 1)) - 1)) = ji51 := (i64_w _).trans hji51
                         by_cases c52 : 0 ≤ (ji51)
                         ·rw [if_pos c52] at H
                          have c52b0 := decide_eq_true c52
                          clear c52
                          by_cases c53 : (ji51) < (a0.size : Int)
                          ·rw [if_pos c53] at H
                           have c53b0 := decide_eq_true c53
                           clear c53
                           by_cases c55 : (bt a0 (ji51)) = 125
                           ·rw [if_pos c55] at H
                            have c55b0 : ((bt a0 (ji51)) == 125) = true := beq_iff_eq.mpr c55
                            have c55b1 : ((bt a0 (ji51)) != 125) = false := bne_eq_false_iff_eq.mpr c55
                            clear c55
                            replace H := Option.bind_eq_some_iff.mp H
                            obtain ⟨t461, A560, H⟩ := H
                            replace H : (if t461 = true then (some (y458, wrap64 ((wrap64 ((ji31) + t456)) + 1), true)) else (some (([] : List (S38)), 0, false))) = some (r1, r2, r3) := H
                            have A56 := Aside0.mk A560
                            clear A560
                            by_cases c57 : t461 = true
                            ·subst c57
                             have H1 : (some (y458, wrap64 ((wrap64 ((ji31) + t456)) + 1), true)) = some (r1, r2, r3) := by rw [if_pos rfl] at H; exact H
                             clear H
                             have H := H1
                             clear H1
                             simp only [Option.some.injEq, Prod.mk.injEq] at H
                             obtain ⟨rfl, rfl, rfl⟩ := H
                             have p54 : 0 ≤ ((ji51) : Int) := od
                             have q54 : (ji51) < (a0.size : Int) := od
                             have hx54 := bt_at a0 (ji51)
                             replace p54 := eq_true p54
                             replace q54 := eq_true q54
                             obtain ⟨Ao58, co58, eo58⟩ := Kd.R_slice HO_5.out
                             subst eo58
                             go_wp2_with (first | ((with_reducible refine gate_callee (f := 28) rfl ?_); refine goesL_ (some 115) rfl rfl Try.func28 (by kernel_rfl) rfl #[.slice Ao58 y458.length co58] rfl ml ?_; (with_reducible refine (archivistref06_Right.calls _ _ _ _ _ _ ?side1 ?side2 A56.out).mono ?_); (case side1 => exact cz (Kd.R_reads' HO_5.out).2.2); (case side2 => exact (Kd.R_reads' HO_5.out).2.1); rintro e w59 ⟨rfl, hb⟩; refine ⟨_, rfl, ?_⟩; have n0_ := Aside0.mk (Kd.R_below (rz HO_5.out) hb); have n1_ := Aside0.mk (below_step bl hb); clear HO_5; clear HB; have HO_5 := n0_; have HB := n1_; clear n0_ n1_; (try clear hb); (try clear hb2); (try clear hk); (try clear hi)))
                             go_ret3
                             exact ⟨_, by first | rfl | (simp [errW_none, errW_some] <;> rfl) | (simp only [← hji31, ← hji51]; first | rfl | (simp [errW_none, errW_some] <;> rfl)) | (simp [*, errW_none, errW_some] <;> rfl), by (with_reducible repeat (first | apply Kd.R_alloc | apply Kd.R_drewN | apply Kd.R_drew)); exact HO_5.out, bl⟩
                            ·replace c57 := Bool.eq_false_iff.mpr c57
                             subst c57
                             have H1 : (some (([] : List (S38)), 0, false)) = some (r1, r2, r3) := by rw [if_neg (show ¬ (false = true) by decide)] at H; exact H
                             clear H
                             have H := H1
                             clear H1
                             simp only [Option.some.injEq, Prod.mk.injEq] at H
                             obtain ⟨rfl, rfl, rfl⟩ := H
                             have p54 : 0 ≤ ((ji51) : Int) := od
                             have q54 : (ji51) < (a0.size : Int) := od
                             have hx54 := bt_at a0 (ji51)
                             replace p54 := eq_true p54
                             replace q54 := eq_true q54
                             obtain ⟨Ao60, co60, eo60⟩ := Kd.R_slice HO_5.out
                             subst eo60
                             go_wp2_with (first | ((with_reducible refine gate_callee (f := 28) rfl ?_); refine goesL_ (some 115) rfl rfl Try.func28 (by kernel_rfl) rfl #[.slice Ao60 y458.length co60] rfl ml ?_; (with_reducible refine (archivistref06_Right.calls _ _ _ _ _ _ ?side1 ?side2 A56.out).mono ?_); (case side1 => exact cz (Kd.R_reads' HO_5.out).2.2); (case side2 => exact (Kd.R_reads' HO_5.out).2.1); rintro e w61 ⟨rfl, hb⟩; refine ⟨_, rfl, ?_⟩; have n0_ := Aside0.mk (Kd.R_below (rz HO_5.out) hb); have n1_ := Aside0.mk (below_step bl hb); clear HO_5; clear HB; have HO_5 := n0_; have HB := n1_; clear n0_ n1_; (try clear hb); (try clear hb2); (try clear hk); (try clear hi)))
                             go_ret3
                             exact ⟨_, by first | rfl | (simp [errW_none, errW_some] <;> rfl) | (simp only [← hji31, ← hji51]; first | rfl | (simp [errW_none, errW_some] <;> rfl)) | (simp [*, errW_none, errW_some] <;> rfl), by first | exact Kd.R_nil _ _ _ _ _ | exact Kd.N_nil _ _ _ _ _ | exact Kd.V_nil _ _ _ _ _ | exact Kd.Q_nil _ _ _ _ _ | exact Kd.S_nil _ _ _ _ _, bl⟩
                           ·rw [if_neg c55] at H
                            have c55b0 : ((bt a0 (ji51)) == 125) = false := beq_eq_false_iff_ne.mpr c55
                            have c55b1 : ((bt a0 (ji51)) != 125) = true := bne_iff_ne.mpr c55
                            have H' := Aside0.mk H
                            clear H
                            have p54 : 0 ≤ ((ji51) : Int) := od
                            have q54 : (ji51) < (a0.size : Int) := od
                            have hx54 := bt_at a0 (ji51)
                            replace p54 := eq_true p54
                            replace q54 := eq_true q54
                            go_wp2
                            go_roundg kj39
                            case measure => have := HJ1.out; have := HK2.out; have := HJ7.out; have := HJ18.out; have := HJ24.out; have := HJ39.out; omega
                            case rel => exact ⟨(y458), (wrap64 ((wrap64 ((ji31) + t456)) + 1)), (by first | rfl | (simp; done) | (simp only [← hji31] <;> (first | rfl | simp)) | (simp [*]; done)), (by first | exact H' | (rw [hji44]; exact H')), ⟨by have := HJ1.out; have := HK2.out; have := HJ7.out; have := HJ18.out; have := HJ24.out; have := HJ39.out; omega⟩, ⟨rz HO_5.out⟩, ⟨bl⟩⟩
                          ·rw [if_neg c53] at H
                           exact absurd H (by simp)
                         ·rw [if_neg c52] at H
                          exact absurd H (by simp)
                     ·rw [if_neg c39] at H
                      exact absurd H (by simp)
                    ·rw [if_neg c38] at H
                     exact absurd H (by simp)
                   ·rw [if_neg c37] at H
                    exact absurd H (by simp)
                  ·rw [if_neg c36] at H
                   exact absurd H (by simp)
                 ·replace c35 := Bool.eq_false_iff.mpr c35
                  subst c35
                  have H1 : (some (([] : List (S38)), 0, false)) = some (r1, r2, r3) := by rw [if_neg (show ¬ (false = true) by decide)] at H; exact H
                  clear H
                  have H := H1
                  clear H1
                  simp only [Option.some.injEq, Prod.mk.injEq] at H
                  obtain ⟨rfl, rfl, rfl⟩ := H
                  go_wp2_with (first | ((with_reducible refine gate_callee (f := 68) rfl ?_); refine goesL_ (some 72) rfl rfl Try.func68 (by kernel_rfl) rfl #[.string (a0.extract ((ji31) : Int).toNat a0.size)] rfl (by (try simp only [List.map_toArray, List.map_cons, List.map_nil]); first | done | (simp only [hji31]; rfl) | rfl | (simp only [List.length_drop, List.length_take]; rfl)) ?_; (with_reducible refine (archivistref01_Get.calls _ _ _ _ _ _ A34.out).mono ?_); rintro e w62 ⟨rfl, hb⟩; refine ⟨_, rfl, ?_⟩; have n0_ := Aside0.mk (Kd.R_below (rz HO_5.out) hb); have n1_ := Aside0.mk (below_step bl hb); clear HO_5; clear HB; have HO_5 := n0_; have HB := n1_; clear n0_ n1_; (try clear hb); (try clear hb2); (try clear hk); (try clear hi)))
                  go_ret3
                  exact ⟨_, by first | rfl | (simp [errW_none, errW_some] <;> rfl) | (simp only [← hji31]; first | rfl | (simp [errW_none, errW_some] <;> rfl)) | (simp [*, errW_none, errW_some] <;> rfl), by first | exact Kd.R_nil _ _ _ _ _ | exact Kd.N_nil _ _ _ _ _ | exact Kd.V_nil _ _ _ _ _ | exact Kd.Q_nil _ _ _ _ _ | exact Kd.S_nil _ _ _ _ _, bl⟩
                ·rw [if_neg c33] at H
                 exact absurd H (by simp)
               ·rw [if_neg c32] at H
                exact absurd H (by simp)
      ·rw [if_neg c7] at H
       have c7b0 : decide ((x5_2.length : Int) < 18) = false := decide_eq_false c7
       have c7b1 : decide (x5_2.length < 18) = false := decide_eq_false (by omega)
       clear c7
       replace H := Option.bind_eq_some_iff.mp H
       obtain ⟨t453, A630, H⟩ := H
       replace H : (if t453 = true then (some (x5_2, x6_2, true)) else (some (([] : List (S38)), 0, false))) = some (r1, r2, r3) := H
       have A63 := Aside0.mk A630
       clear A630
       by_cases c64 : t453 = true
       ·subst c64
        have H1 : (some (x5_2, x6_2, true)) = some (r1, r2, r3) := by rw [if_pos rfl] at H; exact H
        clear H
        have H := H1
        clear H1
        simp only [Option.some.injEq, Prod.mk.injEq] at H
        obtain ⟨rfl, rfl, rfl⟩ := H
        obtain ⟨Ao65, co65, eo65⟩ := Kd.R_slice HO_5.out
        subst eo65
        go_wp2_with (first | ((with_reducible refine gate_callee (f := 28) rfl ?_); refine goesL_ (some 115) rfl rfl Try.func28 (by kernel_rfl) rfl #[.slice Ao65 x5_2.length co65] rfl ml ?_; (with_reducible refine (archivistref06_Right.calls _ _ _ _ _ _ ?side1 ?side2 A63.out).mono ?_); (case side1 => exact cz (Kd.R_reads' HO_5.out).2.2); (case side2 => exact (Kd.R_reads' HO_5.out).2.1); rintro e w66 ⟨rfl, hb⟩; refine ⟨_, rfl, ?_⟩; have n0_ := Aside0.mk (Kd.R_below (rz HO_5.out) hb); have n1_ := Aside0.mk (below_step bl hb); clear HO_5; clear HB; have HO_5 := n0_; have HB := n1_; clear n0_ n1_; (try clear hb); (try clear hb2); (try clear hk); (try clear hi)))
        go_ret3
        exact ⟨_, by first | rfl | (simp [errW_none, errW_some] <;> rfl) | (simp [*, errW_none, errW_some] <;> rfl), by (with_reducible repeat (first | apply Kd.R_alloc | apply Kd.R_drewN | apply Kd.R_drew)); exact HO_5.out, bl⟩
       ·replace c64 := Bool.eq_false_iff.mpr c64
        subst c64
        have H1 : (some (([] : List (S38)), 0, false)) = some (r1, r2, r3) := by rw [if_neg (show ¬ (false = true) by decide)] at H; exact H
        clear H
        have H := H1
        clear H1
        simp only [Option.some.injEq, Prod.mk.injEq] at H
        obtain ⟨rfl, rfl, rfl⟩ := H
        obtain ⟨Ao67, co67, eo67⟩ := Kd.R_slice HO_5.out
        subst eo67
        go_wp2_with (first | ((with_reducible refine gate_callee (f := 28) rfl ?_); refine goesL_ (some 115) rfl rfl Try.func28 (by kernel_rfl) rfl #[.slice Ao67 x5_2.length co67] rfl ml ?_; (with_reducible refine (archivistref06_Right.calls _ _ _ _ _ _ ?side1 ?side2 A63.out).mono ?_); (case side1 => exact cz (Kd.R_reads' HO_5.out).2.2); (case side2 => exact (Kd.R_reads' HO_5.out).2.1); rintro e w68 ⟨rfl, hb⟩; refine ⟨_, rfl, ?_⟩; have n0_ := Aside0.mk (Kd.R_below (rz HO_5.out) hb); have n1_ := Aside0.mk (below_step bl hb); clear HO_5; clear HB; have HO_5 := n0_; have HB := n1_; clear n0_ n1_; (try clear hb); (try clear hb2); (try clear hk); (try clear hi)))
        go_ret3
        exact ⟨_, by first | rfl | (simp [errW_none, errW_some] <;> rfl) | (simp [*, errW_none, errW_some] <;> rfl), by first | exact Kd.R_nil _ _ _ _ _ | exact Kd.N_nil _ _ _ _ _ | exact Kd.V_nil _ _ _ _ _ | exact Kd.Q_nil _ _ _ _ _ | exact Kd.S_nil _ _ _ _ _, bl⟩

end Go.Proofs.Ytbkhgldinmabiaa.X
