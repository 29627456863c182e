-- Laid by xprint.py, a program of this session's, out of the translation.
import Derived.Test.YtbkhgldinmabiaaX0
import Derived.Test.YtbkhgldinmabiaaX2
import Derived.Test.YtbkhgldinmabiaaX3
import Derived.Test.YtbkhgldinmabiaaX6
import Derived.Test.YtbkhgldinmabiaaX7
import Derived.Test.YtbkhgldinmabiaaX9
import Derived.Test.YtbkhgldinmabiaaX10
import Derived.Test.YtbkhgldinmabiaaX14
import Derived.Test.YtbkhgldinmabiaaX15
import Derived.Test.YtbkhgldinmabiaaX16
import Derived.Test.YtbkhgldinmabiaaX17
import Derived.Test.YtbkhgldinmabiaaX18
import Derived.Test.YtbkhgldinmabiaaX19
import Derived.Test.YtbkhgldinmabiaaX21
import Derived.Test.YtbkhgldinmabiaaX22
namespace Go.Proofs.Ytbkhgldinmabiaa.X
open Go.RowKit Go.Proofs.YtbkhgldinmabiaaW.PrintWords Go.Proofs.YtbkhgldinmabiaaW.PrintLast Go.Proofs.YtbkhgldinmabiaaW.PrintMore
attribute [local go_sem] max2_int min2_int max_two min_two max_three min_three max_four min_four x_isSome x_str_gtr x_str_leq x_str_geq   -- for this text's walks alone
set_option linter.unusedVariables false
set_option linter.unusedSimpArgs false

attribute [local go_sem high] eqA38
/-! ### archivistlaw06_LabelTells: function 3 -/
mutual
def archivistlaw06_LabelTells.j0 : Nat → ByteArray → Bool → List (S29) → List (S29) → List (S38) → List (S38) → Bool → Option (Bool)
 | 0, _, _, _, _, _, _, _ => none
 | k + 1, x2, x7, x8, x9, x10, x11, x39 => if x39 = true then (if 0 < (x8.length : Int) then (archivistlaw06_LabelTells.j1 k ((rd_T29 x8 0).f0) x7 x8 x9 x10 x11) else (none)) else (archivistlaw06_LabelTells.j1 k x2 x7 x8 x9 x10 x11)
def archivistlaw06_LabelTells.j1 : Nat → ByteArray → Bool → List (S29) → List (S29) → List (S38) → List (S38) → Option (Bool)
 | 0, _, _, _, _, _, _ => none
 | k + 1, x2, x7, x8, x9, x10, x11 => (label_Set_Get.f k x8 x2).bind fun bt420 => ((archivistref06_Get.f k x10 x2).bind fun bt422 => ((label_Of.f k x8).bind fun t424 => ((archivistref06_Of.f k x10).bind fun t427 => ((archivistlaw06_samePairs.f k t424 t427).bind fun t430 => ((label_Set_With.f k x8 x9).bind fun t431 => ((archivistref06_With.f k x10 x11).bind fun t434 => ((archivistlaw06_samePairs.f k t431 t434).bind fun t437 => (archivistlaw06_LabelTells.l0 k x2 x7 x8 x9 x10 x11 bt420.1 bt420.2 bt422.1 bt422.2 t430 t437 ((x10.length : Int) == (x11.length : Int)) 0))))))))
def archivistlaw06_LabelTells.j3 : Nat → ByteArray → Bool → List (S29) → List (S29) → List (S38) → List (S38) → ByteArray → Bool → ByteArray → Bool → Bool → Bool → Bool → Option (Bool)
 | 0, _, _, _, _, _, _, _, _, _, _, _, _, _ => none
 | k + 1, x2, x7, x8, x9, x10, x11, x12, x13, x14, x15, x16, x17, x18 => if x7 = true then (if x16 = true then (if x17 = true then (if x12.toList = x14.toList then (if (x13 == x15) = true then ((label_Name.f k x2).bind fun t440 => ((archivistref06_Name.f k x2).bind fun t441 => (if (t440 == t441) = true then ((label_Right.f k x8).bind fun t442 => ((archivistref06_Right.f k x10).bind fun t443 => (if (t442 == t443) = true then ((label_Set_Text.f k x8).bind fun t444 => ((archivistref06_Text.f k x10).bind fun t445 => (if t444.toList = t445.toList then ((label_Order.f k x8 x9).bind fun t446 => ((archivistref06_Order.f k x10 x11).bind fun t447 => (if t446 = t447 then ((label_Same.f k x8 x9).bind fun t448 => (some (t448 == x18))) else (none)))) else (none)))) else (none)))) else (none)))) else (none)) else (none)) else (none)) else (none)) else (none)
def archivistlaw06_LabelTells.l0 : Nat → ByteArray → Bool → List (S29) → List (S29) → List (S38) → List (S38) → ByteArray → Bool → ByteArray → Bool → Bool → Bool → Bool → Int → Option (Bool)
 | 0, _, _, _, _, _, _, _, _, _, _, _, _, _, _ => none
 | k + 1, x2, x7, x8, x9, x10, x11, x12, x13, x14, x15, x16, x17, x18, x19 => if x19 < (x10.length : Int) then (if x18 = true then (if 0 ≤ x19 then (if x19 < (x11.length : Int) then (archivistlaw06_LabelTells.l0 k x2 x7 x8 x9 x10 x11 x12 x13 x14 x15 x16 x17 ((((rd_T38 x10 x19).f0).toList) == (((rd_T38 x11 x19).f0).toList) && ((((rd_T38 x10 x19).f1).toList) == (((rd_T38 x11 x19).f1).toList))) (wrap64 (x19 + 1))) else (none)) else (none)) else (archivistlaw06_LabelTells.j3 k x2 x7 x8 x9 x10 x11 x12 x13 x14 x15 x16 x17 x18)) else (archivistlaw06_LabelTells.j3 k x2 x7 x8 x9 x10 x11 x12 x13 x14 x15 x16 x17 x18)
end
def archivistlaw06_LabelTells.f (k : Nat) (l0 : List (S76)) (l1 : List (S76)) (a2 : ByteArray) : Option (Bool) := (archivistlaw06_examples.f k).bind fun t406 => (if t406 = true then ((archivistlaw06_tags.f k l0 20).bind fun t407 => ((archivistlaw06_tags.f k l1 6).bind fun t410 => ((archivistlaw06_refPairs.f k t407).bind fun t413 => ((archivistlaw06_refPairs.f k t410).bind fun t416 => (if (t407.length : Int) > 0 then (archivistlaw06_LabelTells.j0 k a2 t406 t407 t410 t413 t416 (((a2.size : Int) % 2) == 0)) else (archivistlaw06_LabelTells.j0 k a2 t406 t407 t410 t413 t416 false)))))) else (none))
theorem archivistlaw06_LabelTells.mono_l : ∀ k, (∀ y0 y1 y2 y3 y4 y5 y6, LeO (archivistlaw06_LabelTells.j0 k y0 y1 y2 y3 y4 y5 y6) (archivistlaw06_LabelTells.j0 (k + 1) y0 y1 y2 y3 y4 y5 y6)) ∧ (∀ y0 y1 y2 y3 y4 y5, LeO (archivistlaw06_LabelTells.j1 k y0 y1 y2 y3 y4 y5) (archivistlaw06_LabelTells.j1 (k + 1) y0 y1 y2 y3 y4 y5)) ∧ (∀ y0 y1 y2 y3 y4 y5 y6 y7 y8 y9 y10 y11 y12, LeO (archivistlaw06_LabelTells.j3 k y0 y1 y2 y3 y4 y5 y6 y7 y8 y9 y10 y11 y12) (archivistlaw06_LabelTells.j3 (k + 1) y0 y1 y2 y3 y4 y5 y6 y7 y8 y9 y10 y11 y12)) ∧ (∀ y0 y1 y2 y3 y4 y5 y6 y7 y8 y9 y10 y11 y12 y13, LeO (archivistlaw06_LabelTells.l0 k y0 y1 y2 y3 y4 y5 y6 y7 y8 y9 y10 y11 y12 y13) (archivistlaw06_LabelTells.l0 (k + 1) y0 y1 y2 y3 y4 y5 y6 y7 y8 y9 y10 y11 y12 y13))
 | 0 => ⟨fun _ _ _ _ _ _ _ r h => by simp [archivistlaw06_LabelTells.j0] at h, fun _ _ _ _ _ _ r h => by simp [archivistlaw06_LabelTells.j1] at h, fun _ _ _ _ _ _ _ _ _ _ _ _ _ r h => by simp [archivistlaw06_LabelTells.j3] at h, fun _ _ _ _ _ _ _ _ _ _ _ _ _ _ r h => by simp [archivistlaw06_LabelTells.l0] at h⟩
 | k + 1 => by
  obtain ⟨ih0, ih1, ih2, ih3⟩ := archivistlaw06_LabelTells.mono_l k
  refine ⟨?_, ?_, ?_, ?_⟩
  ·intro y0 y1 y2 y3 y4 y5 y6
   unfold archivistlaw06_LabelTells.j0
   repeat' first
   | (with_reducible exact ih0 _ _ _ _ _ _ _)
   | (with_reducible exact ih1 _ _ _ _ _ _)
   | (with_reducible exact ih2 _ _ _ _ _ _ _ _ _ _ _ _ _)
   | (with_reducible exact ih3 _ _ _ _ _ _ _ _ _ _ _ _ _ _)
   | (with_reducible exact archivistlaw06_examples.mono _)
   | (with_reducible exact archivistlaw06_refPairs.mono _ _)
   | (with_reducible exact archivistlaw06_samePairs.mono _ _ _)
   | (with_reducible exact archivistlaw06_tags.mono _ _ _)
   | (with_reducible exact archivistref06_Get.mono _ _ _)
   | (with_reducible exact archivistref06_Name.mono _ _)
   | (with_reducible exact archivistref06_Of.mono _ _)
   | (with_reducible exact archivistref06_Order.mono _ _ _)
   | (with_reducible exact archivistref06_Right.mono _ _)
   | (with_reducible exact archivistref06_Text.mono _ _)
   | (with_reducible exact archivistref06_With.mono _ _ _)
   | (with_reducible exact label_Name.mono _ _)
   | (with_reducible exact label_Of.mono _ _)
   | (with_reducible exact label_Order.mono _ _ _)
   | (with_reducible exact label_Right.mono _ _)
   | (with_reducible exact label_Same.mono _ _ _)
   | (with_reducible exact label_Set_Get.mono _ _ _)
   | (with_reducible exact label_Set_Text.mono _ _)
   | (with_reducible exact label_Set_With.mono _ _ _)
   | (with_reducible exact LeO.refl _)
   | (with_reducible exact LeO.none _)
   | (with_reducible refine LeO.ite ?_ ?_)
   | (with_reducible refine LeO.bind ?_ (fun _ => ?_))
   | exact ih0 _ _ _ _ _ _ _
   | exact ih1 _ _ _ _ _ _
   | exact ih2 _ _ _ _ _ _ _ _ _ _ _ _ _
   | exact ih3 _ _ _ _ _ _ _ _ _ _ _ _ _ _
   | exact archivistlaw06_examples.mono _
   | exact archivistlaw06_refPairs.mono _ _
   | exact archivistlaw06_samePairs.mono _ _ _
   | exact archivistlaw06_tags.mono _ _ _
   | exact archivistref06_Get.mono _ _ _
   | exact archivistref06_Name.mono _ _
   | exact archivistref06_Of.mono _ _
   | exact archivistref06_Order.mono _ _ _
   | exact archivistref06_Right.mono _ _
   | exact archivistref06_Text.mono _ _
   | exact archivistref06_With.mono _ _ _
   | exact label_Name.mono _ _
   | exact label_Of.mono _ _
   | exact label_Order.mono _ _ _
   | exact label_Right.mono _ _
   | exact label_Same.mono _ _ _
   | exact label_Set_Get.mono _ _ _
   | exact label_Set_Text.mono _ _
   | exact label_Set_With.mono _ _ _
   | exact LeO.none _
   | refine LeO.ite ?_ ?_
   | refine LeO.bind ?_ (fun _ => ?_)
  ·intro y0 y1 y2 y3 y4 y5
   unfold archivistlaw06_LabelTells.j1
   repeat' first
   | (with_reducible exact ih0 _ _ _ _ _ _ _)
   | (with_reducible exact ih1 _ _ _ _ _ _)
   | (with_reducible exact ih2 _ _ _ _ _ _ _ _ _ _ _ _ _)
   | (with_reducible exact ih3 _ _ _ _ _ _ _ _ _ _ _ _ _ _)
   | (with_reducible exact archivistlaw06_examples.mono _)
   | (with_reducible exact archivistlaw06_refPairs.mono _ _)
   | (with_reducible exact archivistlaw06_samePairs.mono _ _ _)
   | (with_reducible exact archivistlaw06_tags.mono _ _ _)
   | (with_reducible exact archivistref06_Get.mono _ _ _)
   | (with_reducible exact archivistref06_Name.mono _ _)
   | (with_reducible exact archivistref06_Of.mono _ _)
   | (with_reducible exact archivistref06_Order.mono _ _ _)
   | (with_reducible exact archivistref06_Right.mono _ _)
   | (with_reducible exact archivistref06_Text.mono _ _)
   | (with_reducible exact archivistref06_With.mono _ _ _)
   | (with_reducible exact label_Name.mono _ _)
   | (with_reducible exact label_Of.mono _ _)
   | (with_reducible exact label_Order.mono _ _ _)
   | (with_reducible exact label_Right.mono _ _)
   | (with_reducible exact label_Same.mono _ _ _)
   | (with_reducible exact label_Set_Get.mono _ _ _)
   | (with_reducible exact label_Set_Text.mono _ _)
   | (with_reducible exact label_Set_With.mono _ _ _)
   | (with_reducible exact LeO.refl _)
   | (with_reducible exact LeO.none _)
   | (with_reducible refine LeO.ite ?_ ?_)
   | (with_reducible refine LeO.bind ?_ (fun _ => ?_))
   | exact ih0 _ _ _ _ _ _ _
   | exact ih1 _ _ _ _ _ _
   | exact ih2 _ _ _ _ _ _ _ _ _ _ _ _ _
   | exact ih3 _ _ _ _ _ _ _ _ _ _ _ _ _ _
   | exact archivistlaw06_examples.mono _
   | exact archivistlaw06_refPairs.mono _ _
   | exact archivistlaw06_samePairs.mono _ _ _
   | exact archivistlaw06_tags.mono _ _ _
   | exact archivistref06_Get.mono _ _ _
   | exact archivistref06_Name.mono _ _
   | exact archivistref06_Of.mono _ _
   | exact archivistref06_Order.mono _ _ _
   | exact archivistref06_Right.mono _ _
   | exact archivistref06_Text.mono _ _
   | exact archivistref06_With.mono _ _ _
   | exact label_Name.mono _ _
   | exact label_Of.mono _ _
   | exact label_Order.mono _ _ _
   | exact label_Right.mono _ _
   | exact label_Same.mono _ _ _
   | exact label_Set_Get.mono _ _ _
   | exact label_Set_Text.mono _ _
   | exact label_Set_With.mono _ _ _
   | exact LeO.none _
   | refine LeO.ite ?_ ?_
   | refine LeO.bind ?_ (fun _ => ?_)
  ·intro y0 y1 y2 y3 y4 y5 y6 y7 y8 y9 y10 y11 y12
   unfold archivistlaw06_LabelTells.j3
   repeat' first
   | (with_reducible exact ih0 _ _ _ _ _ _ _)
   | (with_reducible exact ih1 _ _ _ _ _ _)
   | (with_reducible exact ih2 _ _ _ _ _ _ _ _ _ _ _ _ _)
   | (with_reducible exact ih3 _ _ _ _ _ _ _ _ _ _ _ _ _ _)
   | (with_reducible exact archivistlaw06_examples.mono _)
   | (with_reducible exact archivistlaw06_refPairs.mono _ _)
   | (with_reducible exact archivistlaw06_samePairs.mono _ _ _)
   | (with_reducible exact archivistlaw06_tags.mono _ _ _)
   | (with_reducible exact archivistref06_Get.mono _ _ _)
   | (with_reducible exact archivistref06_Name.mono _ _)
   | (with_reducible exact archivistref06_Of.mono _ _)
   | (with_reducible exact archivistref06_Order.mono _ _ _)
   | (with_reducible exact archivistref06_Right.mono _ _)
   | (with_reducible exact archivistref06_Text.mono _ _)
   | (with_reducible exact archivistref06_With.mono _ _ _)
   | (with_reducible exact label_Name.mono _ _)
   | (with_reducible exact label_Of.mono _ _)
   | (with_reducible exact label_Order.mono _ _ _)
   | (with_reducible exact label_Right.mono _ _)
   | (with_reducible exact label_Same.mono _ _ _)
   | (with_reducible exact label_Set_Get.mono _ _ _)
   | (with_reducible exact label_Set_Text.mono _ _)
   | (with_reducible exact label_Set_With.mono _ _ _)
   | (with_reducible exact LeO.refl _)
   | (with_reducible exact LeO.none _)
   | (with_reducible refine LeO.ite ?_ ?_)
   | (with_reducible refine LeO.bind ?_ (fun _ => ?_))
   | exact ih0 _ _ _ _ _ _ _
   | exact ih1 _ _ _ _ _ _
   | exact ih2 _ _ _ _ _ _ _ _ _ _ _ _ _
   | exact ih3 _ _ _ _ _ _ _ _ _ _ _ _ _ _
   | exact archivistlaw06_examples.mono _
   | exact archivistlaw06_refPairs.mono _ _
   | exact archivistlaw06_samePairs.mono _ _ _
   | exact archivistlaw06_tags.mono _ _ _
   | exact archivistref06_Get.mono _ _ _
   | exact archivistref06_Name.mono _ _
   | exact archivistref06_Of.mono _ _
   | exact archivistref06_Order.mono _ _ _
   | exact archivistref06_Right.mono _ _
   | exact archivistref06_Text.mono _ _
   | exact archivistref06_With.mono _ _ _
   | exact label_Name.mono _ _
   | exact label_Of.mono _ _
   | exact label_Order.mono _ _ _
   | exact label_Right.mono _ _
   | exact label_Same.mono _ _ _
   | exact label_Set_Get.mono _ _ _
   | exact label_Set_Text.mono _ _
   | exact label_Set_With.mono _ _ _
   | exact LeO.none _
   | refine LeO.ite ?_ ?_
   | refine LeO.bind ?_ (fun _ => ?_)
  ·intro y0 y1 y2 y3 y4 y5 y6 y7 y8 y9 y10 y11 y12 y13
   unfold archivistlaw06_LabelTells.l0
   repeat' first
   | (with_reducible exact ih0 _ _ _ _ _ _ _)
   | (with_reducible exact ih1 _ _ _ _ _ _)
   | (with_reducible exact ih2 _ _ _ _ _ _ _ _ _ _ _ _ _)
   | (with_reducible exact ih3 _ _ _ _ _ _ _ _ _ _ _ _ _ _)
   | (with_reducible exact archivistlaw06_examples.mono _)
   | (with_reducible exact archivistlaw06_refPairs.mono _ _)
   | (with_reducible exact archivistlaw06_samePairs.mono _ _ _)
   | (with_reducible exact archivistlaw06_tags.mono _ _ _)
   | (with_reducible exact archivistref06_Get.mono _ _ _)
   | (with_reducible exact archivistref06_Name.mono _ _)
   | (with_reducible exact archivistref06_Of.mono _ _)
   | (with_reducible exact archivistref06_Order.mono _ _ _)
   | (with_reducible exact archivistref06_Right.mono _ _)
   | (with_reducible exact archivistref06_Text.mono _ _)
   | (with_reducible exact archivistref06_With.mono _ _ _)
   | (with_reducible exact label_Name.mono _ _)
   | (with_reducible exact label_Of.mono _ _)
   | (with_reducible exact label_Order.mono _ _ _)
   | (with_reducible exact label_Right.mono _ _)
   | (with_reducible exact label_Same.mono _ _ _)
   | (with_reducible exact label_Set_Get.mono _ _ _)
   | (with_reducible exact label_Set_Text.mono _ _)
   | (with_reducible exact label_Set_With.mono _ _ _)
   | (with_reducible exact LeO.refl _)
   | (with_reducible exact LeO.none _)
   | (with_reducible refine LeO.ite ?_ ?_)
   | (with_reducible refine LeO.bind ?_ (fun _ => ?_))
   | exact ih0 _ _ _ _ _ _ _
   | exact ih1 _ _ _ _ _ _
   | exact ih2 _ _ _ _ _ _ _ _ _ _ _ _ _
   | exact ih3 _ _ _ _ _ _ _ _ _ _ _ _ _ _
   | exact archivistlaw06_examples.mono _
   | exact archivistlaw06_refPairs.mono _ _
   | exact archivistlaw06_samePairs.mono _ _ _
   | exact archivistlaw06_tags.mono _ _ _
   | exact archivistref06_Get.mono _ _ _
   | exact archivistref06_Name.mono _ _
   | exact archivistref06_Of.mono _ _
   | exact archivistref06_Order.mono _ _ _
   | exact archivistref06_Right.mono _ _
   | exact archivistref06_Text.mono _ _
   | exact archivistref06_With.mono _ _ _
   | exact label_Name.mono _ _
   | exact label_Of.mono _ _
   | exact label_Order.mono _ _ _
   | exact label_Right.mono _ _
   | exact label_Same.mono _ _ _
   | exact label_Set_Get.mono _ _ _
   | exact label_Set_Text.mono _ _
   | exact label_Set_With.mono _ _ _
   | exact LeO.none _
   | refine LeO.ite ?_ ?_
   | refine LeO.bind ?_ (fun _ => ?_)
theorem archivistlaw06_LabelTells.mono : ∀ a0 a1 a2 k, LeO (archivistlaw06_LabelTells.f k a0 a1 a2) (archivistlaw06_LabelTells.f (k + 1) a0 a1 a2) := by
 intro a0 a1 a2 k
 obtain ⟨ih0, ih1, ih2, ih3⟩ := archivistlaw06_LabelTells.mono_l k
 unfold archivistlaw06_LabelTells.f
 repeat' first
   | (with_reducible exact ih0 _ _ _ _ _ _ _)
   | (with_reducible exact ih1 _ _ _ _ _ _)
   | (with_reducible exact ih2 _ _ _ _ _ _ _ _ _ _ _ _ _)
   | (with_reducible exact ih3 _ _ _ _ _ _ _ _ _ _ _ _ _ _)
   | (with_reducible exact archivistlaw06_examples.mono _)
   | (with_reducible exact archivistlaw06_refPairs.mono _ _)
   | (with_reducible exact archivistlaw06_samePairs.mono _ _ _)
   | (with_reducible exact archivistlaw06_tags.mono _ _ _)
   | (with_reducible exact archivistref06_Get.mono _ _ _)
   | (with_reducible exact archivistref06_Name.mono _ _)
   | (with_reducible exact archivistref06_Of.mono _ _)
   | (with_reducible exact archivistref06_Order.mono _ _ _)
   | (with_reducible exact archivistref06_Right.mono _ _)
   | (with_reducible exact archivistref06_Text.mono _ _)
   | (with_reducible exact archivistref06_With.mono _ _ _)
   | (with_reducible exact label_Name.mono _ _)
   | (with_reducible exact label_Of.mono _ _)
   | (with_reducible exact label_Order.mono _ _ _)
   | (with_reducible exact label_Right.mono _ _)
   | (with_reducible exact label_Same.mono _ _ _)
   | (with_reducible exact label_Set_Get.mono _ _ _)
   | (with_reducible exact label_Set_Text.mono _ _)
   | (with_reducible exact label_Set_With.mono _ _ _)
   | (with_reducible exact LeO.refl _)
   | (with_reducible exact LeO.none _)
   | (with_reducible refine LeO.ite ?_ ?_)
   | (with_reducible refine LeO.bind ?_ (fun _ => ?_))
   | exact ih0 _ _ _ _ _ _ _
   | exact ih1 _ _ _ _ _ _
   | exact ih2 _ _ _ _ _ _ _ _ _ _ _ _ _
   | exact ih3 _ _ _ _ _ _ _ _ _ _ _ _ _ _
   | exact archivistlaw06_examples.mono _
   | exact archivistlaw06_refPairs.mono _ _
   | exact archivistlaw06_samePairs.mono _ _ _
   | exact archivistlaw06_tags.mono _ _ _
   | exact archivistref06_Get.mono _ _ _
   | exact archivistref06_Name.mono _ _
   | exact archivistref06_Of.mono _ _
   | exact archivistref06_Order.mono _ _ _
   | exact archivistref06_Right.mono _ _
   | exact archivistref06_Text.mono _ _
   | exact archivistref06_With.mono _ _ _
   | exact label_Name.mono _ _
   | exact label_Of.mono _ _
   | exact label_Order.mono _ _ _
   | exact label_Right.mono _ _
   | exact label_Same.mono _ _ _
   | exact label_Set_Get.mono _ _ _
   | exact label_Set_Text.mono _ _
   | exact label_Set_With.mono _ _ _
   | exact LeO.none _
   | refine LeO.ite ?_ ?_
   | refine LeO.bind ?_ (fun _ => ?_)
set_option maxHeartbeats 8000000 in
set_option maxRecDepth 100000 in
theorem archivistlaw06_LabelTells.calls (k : Nat) (A0 : Option Addr) (c0 : Nat) (l0 : List (S76)) (A1 : Option Addr) (c1 : Nat) (l1 : List (S76)) (a2 : ByteArray) (r : Bool) (w : World) (hr0 : Kd.C k76 w A0 l0.length l0) (hc0 : l0.length ≤ c0) (hr1 : Kd.C k76 w A1 l1.length l1) (hc1 : l1.length ≤ c1) (h : archivistlaw06_LabelTells.f k l0 l1 a2 = some r) :
  Calls Try.prog 3 #[.slice A0 l0.length c0, .slice A1 l1.length c1, .string a2] w fun e w' => e = .returned (.bool r) ∧ Below w.heap.size w w' := by
 have hu38 := Try.underlying38
 have HR0 := Aside0.mk hr0
 have HC0 := Aside0.mk hc0
 clear hr0 hc0
 have HR1 := Aside0.mk hr1
 have HC1 := Aside0.mk hc1
 clear hr1 hc1
 have HB := Aside0.mk (Below.refl w.heap.size w)
 have H : ((archivistlaw06_examples.f k).bind fun t406 => (if t406 = true then ((archivistlaw06_tags.f k l0 20).bind fun t407 => ((archivistlaw06_tags.f k l1 6).bind fun t410 => ((archivistlaw06_refPairs.f k t407).bind fun t413 => ((archivistlaw06_refPairs.f k t410).bind fun t416 => (if (t407.length : Int) > 0 then (archivistlaw06_LabelTells.j0 k a2 t406 t407 t410 t413 t416 (((a2.size : Int) % 2) == 0)) else (archivistlaw06_LabelTells.j0 k a2 t406 t407 t410 t413 t416 false)))))) else (none))) = some r := h
 clear h
 replace H := Option.bind_eq_some_iff.mp H
 obtain ⟨t406, A40, H⟩ := H
 replace H : (if t406 = true then ((archivistlaw06_tags.f k l0 20).bind fun t407 => ((archivistlaw06_tags.f k l1 6).bind fun t410 => ((archivistlaw06_refPairs.f k t407).bind fun t413 => ((archivistlaw06_refPairs.f k t410).bind fun t416 => (if (t407.length : Int) > 0 then (archivistlaw06_LabelTells.j0 k a2 t406 t407 t410 t413 t416 (((a2.size : Int) % 2) == 0)) else (archivistlaw06_LabelTells.j0 k a2 t406 t407 t410 t413 t416 false)))))) else (none)) = some r := H
 have A4 := Aside0.mk A40
 clear A40
 by_cases c5 : t406 = true
 ·subst c5
  have H1 : ((archivistlaw06_tags.f k l0 20).bind fun t407 => ((archivistlaw06_tags.f k l1 6).bind fun t410 => ((archivistlaw06_refPairs.f k t407).bind fun t413 => ((archivistlaw06_refPairs.f k t410).bind fun t416 => (if (t407.length : Int) > 0 then (archivistlaw06_LabelTells.j0 k a2 true t407 t410 t413 t416 (((a2.size : Int) % 2) == 0)) else (archivistlaw06_LabelTells.j0 k a2 true t407 t410 t413 t416 false)))))) = some r := by rw [if_pos rfl] at H; exact H
  clear H
  have H := H1
  clear H1
  replace H := Option.bind_eq_some_iff.mp H
  obtain ⟨t407, A60, H⟩ := H
  replace H : ((archivistlaw06_tags.f k l1 6).bind fun t410 => ((archivistlaw06_refPairs.f k t407).bind fun t413 => ((archivistlaw06_refPairs.f k t410).bind fun t416 => (if (t407.length : Int) > 0 then (archivistlaw06_LabelTells.j0 k a2 true t407 t410 t413 t416 (((a2.size : Int) % 2) == 0)) else (archivistlaw06_LabelTells.j0 k a2 true t407 t410 t413 t416 false))))) = some r := H
  have A6 := Aside0.mk A60
  clear A60
  replace H := Option.bind_eq_some_iff.mp H
  obtain ⟨t410, A70, H⟩ := H
  replace H : ((archivistlaw06_refPairs.f k t407).bind fun t413 => ((archivistlaw06_refPairs.f k t410).bind fun t416 => (if (t407.length : Int) > 0 then (archivistlaw06_LabelTells.j0 k a2 true t407 t410 t413 t416 (((a2.size : Int) % 2) == 0)) else (archivistlaw06_LabelTells.j0 k a2 true t407 t410 t413 t416 false)))) = some r := H
  have A7 := Aside0.mk A70
  clear A70
  replace H := Option.bind_eq_some_iff.mp H
  obtain ⟨t413, A80, H⟩ := H
  replace H : ((archivistlaw06_refPairs.f k t410).bind fun t416 => (if (t407.length : Int) > 0 then (archivistlaw06_LabelTells.j0 k a2 true t407 t410 t413 t416 (((a2.size : Int) % 2) == 0)) else (archivistlaw06_LabelTells.j0 k a2 true t407 t410 t413 t416 false))) = some r := H
  have A8 := Aside0.mk A80
  clear A80
  replace H := Option.bind_eq_some_iff.mp H
  obtain ⟨t416, A90, H⟩ := H
  replace H : (if (t407.length : Int) > 0 then (archivistlaw06_LabelTells.j0 k a2 true t407 t410 t413 t416 (((a2.size : Int) % 2) == 0)) else (archivistlaw06_LabelTells.j0 k a2 true t407 t410 t413 t416 false)) = some r := H
  have A9 := Aside0.mk A90
  clear A90
  have HC10 := Aside0.mk H
  clear H
  go_enter Try.func3, Try.ntmps3
  go_upto_region 8 with (first | (go_at_call 15; (with_reducible refine (archivistlaw06_examples.calls k  true _ A4.out).mono ?_); rintro e w11 ⟨rfl, hb⟩; have n0_ := Aside0.mk (below_step bl hb); clear HB; have HB := n0_; clear n0_; (try clear hb); (try clear hb2); (try clear hk); (try clear hi)) | (go_at_call 16; (with_reducible refine (archivistlaw06_tags.calls k _ _ l0 20 t407 _ ?side1 ?side2 A6.out).mono ?_); (case side1 => repeat (first | exact (Kd.C_below HR0.out HB.out) | (with_reducible refine Kd.C_alloc ?_ _) | (with_reducible refine Kd.C_drewN ?_ _) | (with_reducible refine Kd.C_drew ?_))); (case side2 => exact HC0.out); rintro e w12 ⟨v408, rfl, ho0, hb⟩; have n0_ := Aside0.mk (Kd.R_lower ho0 (below_size bl)); have n1_ := Aside0.mk (below_step bl hb); clear HB; have HO409 := n0_; have HB := n1_; clear n0_ n1_; (try clear hb); (try clear hb2); (try clear hk); (try clear hi); (try clear ho0)) | (go_at_call 16; (with_reducible refine (archivistlaw06_tags.calls k _ _ l1 6 t410 _ ?side1 ?side2 A7.out).mono ?_); (case side1 => repeat (first | exact (Kd.C_below HR1.out HB.out) | (with_reducible refine Kd.C_alloc ?_ _) | (with_reducible refine Kd.C_drewN ?_ _) | (with_reducible refine Kd.C_drew ?_))); (case side2 => exact HC1.out); rintro e w13 ⟨v411, rfl, ho0, hb⟩; have n0_ := Aside0.mk (Kd.R_elder' (rz HO409.out) (Kd.R_base ho0) hb); have n1_ := Aside0.mk (Kd.R_lower (Kd.R_new' ho0 (Kd.R_lt (rz HO409.out))) (below_size bl)); have n2_ := Aside0.mk (below_step bl hb); clear HO409; clear HB; have HO409 := n0_; have HO412 := n1_; have HB := n2_; clear n0_ n1_ n2_; (try clear hb); (try clear hb2); (try clear hk); (try clear hi); (try clear ho0); obtain ⟨Ao14, co14, eo14⟩ := Kd.R_slice HO409.out; subst eo14) | (go_at_call 17; (with_reducible refine (archivistlaw06_refPairs.calls k _ _ t407 t413 _ ?side1 ?side2 A8.out).mono ?_); (case side1 => exact cz (Kd.R_reads' HO409.out).2.2); (case side2 => exact (Kd.R_reads' HO409.out).2.1); rintro e w15 ⟨v414, rfl, ho0, hb⟩; have n0_ := Aside0.mk (Kd.R_below (rz HO409.out) hb); have n1_ := Aside0.mk (Kd.R_below (rz HO412.out) hb); have n2_ := Aside0.mk (Kd.R_lower ho0 (below_size bl)); have n3_ := Aside0.mk (below_step bl hb); clear HO409; clear HO412; clear HB; have HO409 := n0_; have HO412 := n1_; have HO415 := n2_; have HB := n3_; clear n0_ n1_ n2_ n3_; (try clear hb); (try clear hb2); (try clear hk); (try clear hi); (try clear ho0); obtain ⟨Ao16, co16, eo16⟩ := Kd.R_slice HO412.out; subst eo16) | (go_at_call 17; (with_reducible refine (archivistlaw06_refPairs.calls k _ _ t410 t416 _ ?side1 ?side2 A9.out).mono ?_); (case side1 => exact cz (Kd.R_reads' HO412.out).2.2); (case side2 => exact (Kd.R_reads' HO412.out).2.1); rintro e w17 ⟨v417, rfl, ho0, hb⟩; have n0_ := Aside0.mk (Kd.R_below (rz HO409.out) hb); have n1_ := Aside0.mk (Kd.R_below (rz HO412.out) hb); have n2_ := Aside0.mk (Kd.R_elder' (rz HO415.out) (Kd.R_base ho0) hb); have n3_ := Aside0.mk (Kd.R_lower (Kd.R_new' ho0 (Kd.R_lt (rz HO415.out))) (below_size bl)); have n4_ := Aside0.mk (below_step bl hb); clear HO409; clear HO412; clear HO415; clear HB; have HO409 := n0_; have HO412 := n1_; have HO415 := n2_; have HO418 := n3_; have HB := n4_; clear n0_ n1_ n2_ n3_ n4_; (try clear hb); (try clear hb2); (try clear hk); (try clear hi); (try clear ho0)))
  repeat (go_quiet (first | (go_at_call 15; (with_reducible refine (archivistlaw06_examples.calls k  true _ A4.out).mono ?_); rintro e w11 ⟨rfl, hb⟩; have n0_ := Aside0.mk (below_step bl hb); clear HB; have HB := n0_; clear n0_; (try clear hb); (try clear hb2); (try clear hk); (try clear hi)) | (go_at_call 16; (with_reducible refine (archivistlaw06_tags.calls k _ _ l0 20 t407 _ ?side1 ?side2 A6.out).mono ?_); (case side1 => repeat (first | exact (Kd.C_below HR0.out HB.out) | (with_reducible refine Kd.C_alloc ?_ _) | (with_reducible refine Kd.C_drewN ?_ _) | (with_reducible refine Kd.C_drew ?_))); (case side2 => exact HC0.out); rintro e w12 ⟨v408, rfl, ho0, hb⟩; have n0_ := Aside0.mk (Kd.R_lower ho0 (below_size bl)); have n1_ := Aside0.mk (below_step bl hb); clear HB; have HO409 := n0_; have HB := n1_; clear n0_ n1_; (try clear hb); (try clear hb2); (try clear hk); (try clear hi); (try clear ho0)) | (go_at_call 16; (with_reducible refine (archivistlaw06_tags.calls k _ _ l1 6 t410 _ ?side1 ?side2 A7.out).mono ?_); (case side1 => repeat (first | exact (Kd.C_below HR1.out HB.out) | (with_reducible refine Kd.C_alloc ?_ _) | (with_reducible refine Kd.C_drewN ?_ _) | (with_reducible refine Kd.C_drew ?_))); (case side2 => exact HC1.out); rintro e w13 ⟨v411, rfl, ho0, hb⟩; have n0_ := Aside0.mk (Kd.R_elder' (rz HO409.out) (Kd.R_base ho0) hb); have n1_ := Aside0.mk (Kd.R_lower (Kd.R_new' ho0 (Kd.R_lt (rz HO409.out))) (below_size bl)); have n2_ := Aside0.mk (below_step bl hb); clear HO409; clear HB; have HO409 := n0_; have HO412 := n1_; have HB := n2_; clear n0_ n1_ n2_; (try clear hb); (try clear hb2); (try clear hk); (try clear hi); (try clear ho0); obtain ⟨Ao14, co14, eo14⟩ := Kd.R_slice HO409.out; subst eo14) | (go_at_call 17; (with_reducible refine (archivistlaw06_refPairs.calls k _ _ t407 t413 _ ?side1 ?side2 A8.out).mono ?_); (case side1 => exact cz (Kd.R_reads' HO409.out).2.2); (case side2 => exact (Kd.R_reads' HO409.out).2.1); rintro e w15 ⟨v414, rfl, ho0, hb⟩; have n0_ := Aside0.mk (Kd.R_below (rz HO409.out) hb); have n1_ := Aside0.mk (Kd.R_below (rz HO412.out) hb); have n2_ := Aside0.mk (Kd.R_lower ho0 (below_size bl)); have n3_ := Aside0.mk (below_step bl hb); clear HO409; clear HO412; clear HB; have HO409 := n0_; have HO412 := n1_; have HO415 := n2_; have HB := n3_; clear n0_ n1_ n2_ n3_; (try clear hb); (try clear hb2); (try clear hk); (try clear hi); (try clear ho0); obtain ⟨Ao16, co16, eo16⟩ := Kd.R_slice HO412.out; subst eo16) | (go_at_call 17; (with_reducible refine (archivistlaw06_refPairs.calls k _ _ t410 t416 _ ?side1 ?side2 A9.out).mono ?_); (case side1 => exact cz (Kd.R_reads' HO412.out).2.2); (case side2 => exact (Kd.R_reads' HO412.out).2.1); rintro e w17 ⟨v417, rfl, ho0, hb⟩; have n0_ := Aside0.mk (Kd.R_below (rz HO409.out) hb); have n1_ := Aside0.mk (Kd.R_below (rz HO412.out) hb); have n2_ := Aside0.mk (Kd.R_elder' (rz HO415.out) (Kd.R_base ho0) hb); have n3_ := Aside0.mk (Kd.R_lower (Kd.R_new' ho0 (Kd.R_lt (rz HO415.out))) (below_size bl)); have n4_ := Aside0.mk (below_step bl hb); clear HO409; clear HO412; clear HO415; clear HB; have HO409 := n0_; have HO412 := n1_; have HO415 := n2_; have HO418 := n3_; have HB := n4_; clear n0_ n1_ n2_ n3_ n4_; (try clear hb); (try clear hb2); (try clear hk); (try clear hi); (try clear ho0))); go_upto_region 8 with (first | (go_at_call 15; (with_reducible refine (archivistlaw06_examples.calls k  true _ A4.out).mono ?_); rintro e w11 ⟨rfl, hb⟩; have n0_ := Aside0.mk (below_step bl hb); clear HB; have HB := n0_; clear n0_; (try clear hb); (try clear hb2); (try clear hk); (try clear hi)) | (go_at_call 16; (with_reducible refine (archivistlaw06_tags.calls k _ _ l0 20 t407 _ ?side1 ?side2 A6.out).mono ?_); (case side1 => repeat (first | exact (Kd.C_below HR0.out HB.out) | (with_reducible refine Kd.C_alloc ?_ _) | (with_reducible refine Kd.C_drewN ?_ _) | (with_reducible refine Kd.C_drew ?_))); (case side2 => exact HC0.out); rintro e w12 ⟨v408, rfl, ho0, hb⟩; have n0_ := Aside0.mk (Kd.R_lower ho0 (below_size bl)); have n1_ := Aside0.mk (below_step bl hb); clear HB; have HO409 := n0_; have HB := n1_; clear n0_ n1_; (try clear hb); (try clear hb2); (try clear hk); (try clear hi); (try clear ho0)) | (go_at_call 16; (with_reducible refine (archivistlaw06_tags.calls k _ _ l1 6 t410 _ ?side1 ?side2 A7.out).mono ?_); (case side1 => repeat (first | exact (Kd.C_below HR1.out HB.out) | (with_reducible refine Kd.C_alloc ?_ _) | (with_reducible refine Kd.C_drewN ?_ _) | (with_reducible refine Kd.C_drew ?_))); (case side2 => exact HC1.out); rintro e w13 ⟨v411, rfl, ho0, hb⟩; have n0_ := Aside0.mk (Kd.R_elder' (rz HO409.out) (Kd.R_base ho0) hb); have n1_ := Aside0.mk (Kd.R_lower (Kd.R_new' ho0 (Kd.R_lt (rz HO409.out))) (below_size bl)); have n2_ := Aside0.mk (below_step bl hb); clear HO409; clear HB; have HO409 := n0_; have HO412 := n1_; have HB := n2_; clear n0_ n1_ n2_; (try clear hb); (try clear hb2); (try clear hk); (try clear hi); (try clear ho0); obtain ⟨Ao14, co14, eo14⟩ := Kd.R_slice HO409.out; subst eo14) | (go_at_call 17; (with_reducible refine (archivistlaw06_refPairs.calls k _ _ t407 t413 _ ?side1 ?side2 A8.out).mono ?_); (case side1 => exact cz (Kd.R_reads' HO409.out).2.2); (case side2 => exact (Kd.R_reads' HO409.out).2.1); rintro e w15 ⟨v414, rfl, ho0, hb⟩; have n0_ := Aside0.mk (Kd.R_below (rz HO409.out) hb); have n1_ := Aside0.mk (Kd.R_below (rz HO412.out) hb); have n2_ := Aside0.mk (Kd.R_lower ho0 (below_size bl)); have n3_ := Aside0.mk (below_step bl hb); clear HO409; clear HO412; clear HB; have HO409 := n0_; have HO412 := n1_; have HO415 := n2_; have HB := n3_; clear n0_ n1_ n2_ n3_; (try clear hb); (try clear hb2); (try clear hk); (try clear hi); (try clear ho0); obtain ⟨Ao16, co16, eo16⟩ := Kd.R_slice HO412.out; subst eo16) | (go_at_call 17; (with_reducible refine (archivistlaw06_refPairs.calls k _ _ t410 t416 _ ?side1 ?side2 A9.out).mono ?_); (case side1 => exact cz (Kd.R_reads' HO412.out).2.2); (case side2 => exact (Kd.R_reads' HO412.out).2.1); rintro e w17 ⟨v417, rfl, ho0, hb⟩; have n0_ := Aside0.mk (Kd.R_below (rz HO409.out) hb); have n1_ := Aside0.mk (Kd.R_below (rz HO412.out) hb); have n2_ := Aside0.mk (Kd.R_elder' (rz HO415.out) (Kd.R_base ho0) hb); have n3_ := Aside0.mk (Kd.R_lower (Kd.R_new' ho0 (Kd.R_lt (rz HO415.out))) (below_size bl)); have n4_ := Aside0.mk (below_step bl hb); clear HO409; clear HO412; clear HO415; clear HB; have HO409 := n0_; have HO412 := n1_; have HO415 := n2_; have HO418 := n3_; have HB := n4_; clear n0_ n1_ n2_ n3_ n4_; (try clear hb); (try clear hb2); (try clear hk); (try clear hi); (try clear ho0))))
  (try simp only [Act.put, List.setIfInBounds_toArray, List.set_cons_zero, List.set_cons_succ])
  go_cut [39] (fun v39 wc => ∃ (kq : Nat) (x39_9 : Bool), v39 = .bool x39_9 ∧ Aside0 (archivistlaw06_LabelTells.j0 kq a2 true t407 t410 t413 t416 x39_9 = some r) ∧ Aside0 (kq ≤ k) ∧ Aside0 (Kd.R k29 29 wc w.heap.size (fun k_ => some k_ ≠ ((.slice Ao16 t410.length co16) : Value).ownBlock) (.slice Ao14 t407.length co14) t407) ∧ Aside0 (Kd.R k29 29 wc w.heap.size (fun k_ => some k_ ≠ ((.slice Ao14 t407.length co14) : Value).ownBlock) (.slice Ao16 t410.length co16) t410) ∧ Aside0 (Kd.R k38 38 wc w.heap.size (fun k_ => some k_ ≠ (v417 : Value).ownBlock) v414 t413) ∧ Aside0 (Kd.R k38 38 wc w.heap.size (fun k_ => some k_ ≠ (v414 : Value).ownBlock) v417 t416) ∧ Aside0 (Below w.heap.size w wc))
  case first =>
   have H := HC10.out
   clear HC10
   by_cases c18 : (t407.length : Int) > 0
   ·rw [if_pos c18] at H
    have c18b0 := decide_eq_true c18
    have c18b1 : decide (0 < t407.length) = true := decide_eq_true (by omega)
    clear c18
    (first | rw [c18b0] | (simp only [i64_w, i32_w]; rw [c18b0]) | skip)
    have H' := Aside0.mk H
    clear H
    go_wp2
    repeat (go_quiet (fail); try go_wp2)
    go_meet
    case rel => exact ⟨_, ((((a2.size : Int) % 2) == 0)), rs, H', ⟨by first | omega | exact Nat.le_refl _⟩, ⟨by (with_reducible repeat (first | apply Kd.R_alloc | apply Kd.R_drewN | apply Kd.R_drew)); exact Kd.R_mono HO409.out (fun _ hk => hk.2)⟩, ⟨by (with_reducible repeat (first | apply Kd.R_alloc | apply Kd.R_drewN | apply Kd.R_drew)); exact Kd.R_mono HO412.out (fun _ hk => hk.2)⟩, ⟨by (with_reducible repeat (first | apply Kd.R_alloc | apply Kd.R_drewN | apply Kd.R_drew)); exact Kd.R_mono HO415.out (fun _ hk => hk.2)⟩, ⟨by (with_reducible repeat (first | apply Kd.R_alloc | apply Kd.R_drewN | apply Kd.R_drew)); exact Kd.R_mono HO418.out (fun _ hk => hk.2)⟩, ⟨bl⟩⟩
   ·rw [if_neg c18] at H
    have c18b0 : decide (0 < (t407.length : Int)) = false := decide_eq_false c18
    have c18b1 : decide (0 < t407.length) = false := decide_eq_false (by omega)
    clear c18
    (first | rw [c18b0] | (simp only [i64_w, i32_w]; rw [c18b0]) | skip)
    have H' := Aside0.mk H
    clear H
    go_wp2
    repeat (go_quiet (fail); try go_wp2)
    go_meet
    case rel => exact ⟨_, (false), rs, H', ⟨by first | omega | exact Nat.le_refl _⟩, ⟨by (with_reducible repeat (first | apply Kd.R_alloc | apply Kd.R_drewN | apply Kd.R_drew)); exact Kd.R_mono HO409.out (fun _ hk => hk.2)⟩, ⟨by (with_reducible repeat (first | apply Kd.R_alloc | apply Kd.R_drewN | apply Kd.R_drew)); exact Kd.R_mono HO412.out (fun _ hk => hk.2)⟩, ⟨by (with_reducible repeat (first | apply Kd.R_alloc | apply Kd.R_drewN | apply Kd.R_drew)); exact Kd.R_mono HO415.out (fun _ hk => hk.2)⟩, ⟨by (with_reducible repeat (first | apply Kd.R_alloc | apply Kd.R_drewN | apply Kd.R_drew)); exact Kd.R_mono HO418.out (fun _ hk => hk.2)⟩, ⟨bl⟩⟩
  case rest =>
   clear HC10
   try clear c1
   try clear p2
   try clear c3
   try clear c5
   try clear c18
   try clear c18b0
   try clear c18b1
   obtain ⟨kq, x39_9, rfl, HA, HJ9, HO_8, HO_9, HO_10, HO_11, HB⟩ := hcut
   cases kq with
   | zero => exact absurd HA.out (by simp [archivistlaw06_LabelTells.j0])
   | succ kj9 =>
    have H := HA.out
    clear HA
    simp only [archivistlaw06_LabelTells.j0] at H
    have HC19 := Aside0.mk H
    clear H
    go_upto_if 39 with (fail)
    repeat (go_quiet (fail); go_upto_if 39 with (fail))
    go_cut [2] (fun v2 wc => ∃ (kq : Nat) (x2_18 : ByteArray), v2 = .string x2_18 ∧ Aside0 (archivistlaw06_LabelTells.j1 kq x2_18 true t407 t410 t413 t416 = some r) ∧ Aside0 (kq ≤ kj9) ∧ Aside0 (Kd.R k29 29 wc w.heap.size (fun k_ => some k_ ≠ ((.slice Ao16 t410.length co16) : Value).ownBlock) (.slice Ao14 t407.length co14) t407) ∧ Aside0 (Kd.R k29 29 wc w.heap.size (fun k_ => some k_ ≠ ((.slice Ao14 t407.length co14) : Value).ownBlock) (.slice Ao16 t410.length co16) t410) ∧ Aside0 (Kd.R k38 38 wc w.heap.size (fun k_ => some k_ ≠ (v417 : Value).ownBlock) v414 t413) ∧ Aside0 (Kd.R k38 38 wc w.heap.size (fun k_ => some k_ ≠ (v414 : Value).ownBlock) v417 t416) ∧ Aside0 (Below w.heap.size w wc))
    case first =>
     have H := HC19.out
     clear HC19
     by_cases c20 : x39_9 = true
     ·subst c20
      have H1 : (if 0 < (t407.length : Int) then (archivistlaw06_LabelTells.j1 kj9 ((rd_T29 t407 0).f0) true t407 t410 t413 t416) else (none)) = some r := by rw [if_pos rfl] at H; exact H
      clear H
      have H := H1
      clear H1
      by_cases c21 : 0 < (t407.length : Int)
      ·rw [if_pos c21] at H
       have c21b0 := decide_eq_true c21
       have c21b1 : decide (0 < t407.length) = true := decide_eq_true (by omega)
       clear c21
       (first | rw [c21b0] | (simp only [i64_w, i32_w]; rw [c21b0]) | skip)
       have H' := Aside0.mk H
       clear H
       have p419 : 0 ≤ (0 : Int) := (by omega)
       have q419 : 0 < (t407.length : Int) := od
       obtain ⟨ad419, e419, hx419_0, hx419_1⟩ := at_T29 (Kd.R_reads' HO_8.out).2.2 0 p419 q419
       cases e419
       have qi419 : (0 < t407.length) = True := eq_true (by omega)
       (try rw [show ((0 : Int)).toNat = 0 from rfl] at hx419_0)
       (try rw [show 0 * 2 = 0 from rfl] at hx419_0)
       (try rw [Addr.add_zero'] at hx419_0)
       (try rw [show ((0 : Int)).toNat = 0 from rfl] at hx419_1)
       (try rw [show 0 * 2 = 0 from rfl] at hx419_1)
       (try rw [Addr.add_zero'] at hx419_1)
       replace p419 := eq_true p419
       replace q419 := eq_true q419
       go_wp2
       repeat (go_quiet (fail); try go_wp2)
       go_meet
       case rel => exact ⟨_, ((rd_T29 t407 0).f0), rs, H', ⟨by have := HJ9.out; first | omega | exact Nat.le_refl _⟩, ⟨rz HO_8.out⟩, ⟨rz HO_9.out⟩, ⟨rz HO_10.out⟩, ⟨rz HO_11.out⟩, ⟨bl⟩⟩
      ·rw [if_neg c21] at H
       exact absurd H (by simp)
     ·replace c20 := Bool.eq_false_iff.mpr c20
      subst c20
      have H1 : (archivistlaw06_LabelTells.j1 kj9 a2 true t407 t410 t413 t416) = some r := by rw [if_neg (show ¬ (false = true) by decide)] at H; exact H
      clear H
      have H := H1
      clear H1
      have H' := Aside0.mk H
      clear H
      go_wp2
      repeat (go_quiet (fail); try go_wp2)
      go_meet
      case rel => exact ⟨_, (a2), rs, H', ⟨by have := HJ9.out; first | omega | exact Nat.le_refl _⟩, ⟨rz HO_8.out⟩, ⟨rz HO_9.out⟩, ⟨rz HO_10.out⟩, ⟨rz HO_11.out⟩, ⟨bl⟩⟩
    case rest =>
     clear HC19
     try clear c1
     try clear c2
     try clear p2
     try clear c3
     try clear p4
     try clear q4
     try clear hx4
     try clear qi4
     try clear c5
     try clear c18
     try clear c18b0
     try clear c18b1
     try clear c20
     try clear c21
     try clear c21b0
     try clear c21b1
     try clear hx419_0
     try clear hx419_1
     try clear p2
     try clear p419
     try clear q419
     obtain ⟨kq, x2_18, rfl, HA, HJ18, HO_8, HO_9, HO_10, HO_11, HB⟩ := hcut
     cases kq with
     | zero => exact absurd HA.out (by simp [archivistlaw06_LabelTells.j1])
     | succ kj18 =>
      have H := HA.out
      clear HA
      simp only [archivistlaw06_LabelTells.j1] at H
      replace H := Option.bind_eq_some_iff.mp H
      obtain ⟨⟨t420, t421⟩, A220, H⟩ := H
      replace H : ((archivistref06_Get.f kj18 t413 x2_18).bind fun bt422 => ((label_Of.f kj18 t407).bind fun t424 => ((archivistref06_Of.f kj18 t413).bind fun t427 => ((archivistlaw06_samePairs.f kj18 t424 t427).bind fun t430 => ((label_Set_With.f kj18 t407 t410).bind fun t431 => ((archivistref06_With.f kj18 t413 t416).bind fun t434 => ((archivistlaw06_samePairs.f kj18 t431 t434).bind fun t437 => (archivistlaw06_LabelTells.l0 kj18 x2_18 true t407 t410 t413 t416 t420 t421 bt422.1 bt422.2 t430 t437 ((t413.length : Int) == (t416.length : Int)) 0)))))))) = some r := H
      have A22 := Aside0.mk A220
      clear A220
      replace H := Option.bind_eq_some_iff.mp H
      obtain ⟨⟨t422, t423⟩, A230, H⟩ := H
      replace H : ((label_Of.f kj18 t407).bind fun t424 => ((archivistref06_Of.f kj18 t413).bind fun t427 => ((archivistlaw06_samePairs.f kj18 t424 t427).bind fun t430 => ((label_Set_With.f kj18 t407 t410).bind fun t431 => ((archivistref06_With.f kj18 t413 t416).bind fun t434 => ((archivistlaw06_samePairs.f kj18 t431 t434).bind fun t437 => (archivistlaw06_LabelTells.l0 kj18 x2_18 true t407 t410 t413 t416 t420 t421 t422 t423 t430 t437 ((t413.length : Int) == (t416.length : Int)) 0))))))) = some r := H
      have A23 := Aside0.mk A230
      clear A230
      replace H := Option.bind_eq_some_iff.mp H
      obtain ⟨t424, A240, H⟩ := H
      replace H : ((archivistref06_Of.f kj18 t413).bind fun t427 => ((archivistlaw06_samePairs.f kj18 t424 t427).bind fun t430 => ((label_Set_With.f kj18 t407 t410).bind fun t431 => ((archivistref06_With.f kj18 t413 t416).bind fun t434 => ((archivistlaw06_samePairs.f kj18 t431 t434).bind fun t437 => (archivistlaw06_LabelTells.l0 kj18 x2_18 true t407 t410 t413 t416 t420 t421 t422 t423 t430 t437 ((t413.length : Int) == (t416.length : Int)) 0)))))) = some r := H
      have A24 := Aside0.mk A240
      clear A240
      replace H := Option.bind_eq_some_iff.mp H
      obtain ⟨t427, A250, H⟩ := H
      replace H : ((archivistlaw06_samePairs.f kj18 t424 t427).bind fun t430 => ((label_Set_With.f kj18 t407 t410).bind fun t431 => ((archivistref06_With.f kj18 t413 t416).bind fun t434 => ((archivistlaw06_samePairs.f kj18 t431 t434).bind fun t437 => (archivistlaw06_LabelTells.l0 kj18 x2_18 true t407 t410 t413 t416 t420 t421 t422 t423 t430 t437 ((t413.length : Int) == (t416.length : Int)) 0))))) = some r := H
      have A25 := Aside0.mk A250
      clear A250
      replace H := Option.bind_eq_some_iff.mp H
      obtain ⟨t430, A260, H⟩ := H
      replace H : ((label_Set_With.f kj18 t407 t410).bind fun t431 => ((archivistref06_With.f kj18 t413 t416).bind fun t434 => ((archivistlaw06_samePairs.f kj18 t431 t434).bind fun t437 => (archivistlaw06_LabelTells.l0 kj18 x2_18 true t407 t410 t413 t416 t420 t421 t422 t423 t430 t437 ((t413.length : Int) == (t416.length : Int)) 0)))) = some r := H
      have A26 := Aside0.mk A260
      clear A260
      replace H := Option.bind_eq_some_iff.mp H
      obtain ⟨t431, A270, H⟩ := H
      replace H : ((archivistref06_With.f kj18 t413 t416).bind fun t434 => ((archivistlaw06_samePairs.f kj18 t431 t434).bind fun t437 => (archivistlaw06_LabelTells.l0 kj18 x2_18 true t407 t410 t413 t416 t420 t421 t422 t423 t430 t437 ((t413.length : Int) == (t416.length : Int)) 0))) = some r := H
      have A27 := Aside0.mk A270
      clear A270
      replace H := Option.bind_eq_some_iff.mp H
      obtain ⟨t434, A280, H⟩ := H
      replace H : ((archivistlaw06_samePairs.f kj18 t431 t434).bind fun t437 => (archivistlaw06_LabelTells.l0 kj18 x2_18 true t407 t410 t413 t416 t420 t421 t422 t423 t430 t437 ((t413.length : Int) == (t416.length : Int)) 0)) = some r := H
      have A28 := Aside0.mk A280
      clear A280
      replace H := Option.bind_eq_some_iff.mp H
      obtain ⟨t437, A290, H⟩ := H
      replace H : (archivistlaw06_LabelTells.l0 kj18 x2_18 true t407 t410 t413 t416 t420 t421 t422 t423 t430 t437 ((t413.length : Int) == (t416.length : Int)) 0) = some r := H
      have A29 := Aside0.mk A290
      clear A290
      have HC30 := Aside0.mk H
      clear H
      go_upto_block 0 with (first | (go_at_call 18; (with_reducible refine (label_Set_Get.calls kj18 _ _ t407 x2_18 t420 t421 _ ?side1 ?side2 A22.out).mono ?_); (case side1 => exact cz (Kd.R_reads' HO_8.out).2.2); (case side2 => exact (Kd.R_reads' HO_8.out).2.1); rintro e w31 ⟨rfl, hb⟩; have n0_ := Aside0.mk (Kd.R_below (rz HO_8.out) hb); have n1_ := Aside0.mk (Kd.R_below (rz HO_9.out) hb); have n2_ := Aside0.mk (Kd.R_below (rz HO_10.out) hb); have n3_ := Aside0.mk (Kd.R_below (rz HO_11.out) hb); have n4_ := Aside0.mk (below_step bl hb); clear HO_8; clear HO_9; clear HO_10; clear HO_11; clear HB; have HO_8 := n0_; have HO_9 := n1_; have HO_10 := n2_; have HO_11 := n3_; have HB := n4_; clear n0_ n1_ n2_ n3_ n4_; (try clear hb); (try clear hb2); (try clear hk); (try clear hi); obtain ⟨Ao32, co32, eo32⟩ := Kd.R_slice HO_10.out; subst eo32) | (go_at_call 19; (with_reducible refine (archivistref06_Get.calls kj18 _ _ t413 x2_18 t422 t423 _ ?side1 ?side2 A23.out).mono ?_); (case side1 => exact cz (Kd.R_reads' HO_10.out).2.2); (case side2 => exact (Kd.R_reads' HO_10.out).2.1); rintro e w' ⟨rfl, ⟨nd, rfl⟩⟩; (try exact dw)) | (go_at_call 21; (with_reducible refine (label_Of.calls kj18 _ _ t407 t424 _ ?side1 ?side2 A24.out).mono ?_); (case side1 => exact cz (Kd.R_reads' HO_8.out).2.2); (case side2 => exact (Kd.R_reads' HO_8.out).2.1); rintro e w33 ⟨v425, rfl, ho0, hb⟩; have n0_ := Aside0.mk (Kd.R_elder' (rz HO_8.out) (Kd.R_base ho0) hb); have n1_ := Aside0.mk (Kd.R_elder' (rz HO_9.out) (Kd.R_base ho0) hb); have n2_ := Aside0.mk (Kd.R_below (rz HO_10.out) hb); have n3_ := Aside0.mk (Kd.R_below (rz HO_11.out) hb); have n4_ := Aside0.mk (Kd.R_lower (Kd.R_new' (Kd.R_new' ho0 (Kd.R_lt (rz HO_8.out))) (Kd.R_lt (rz HO_9.out))) (below_size bl)); have n5_ := Aside0.mk (below_step bl hb); clear HO_8; clear HO_9; clear HO_10; clear HO_11; clear HB; have HO_8 := n0_; have HO_9 := n1_; have HO_10 := n2_; have HO_11 := n3_; have HO426 := n4_; have HB := n5_; clear n0_ n1_ n2_ n3_ n4_ n5_; (try clear hb); (try clear hb2); (try clear hk); (try clear hi); (try clear ho0)) | (go_at_call 22; (with_reducible refine (archivistref06_Of.calls kj18 _ _ t413 t427 _ ?side1 ?side2 A25.out).mono ?_); (case side1 => exact cz (Kd.R_reads' HO_10.out).2.2); (case side2 => exact (Kd.R_reads' HO_10.out).2.1); rintro e w34 ⟨v428, rfl, ho0, hb⟩; have n0_ := Aside0.mk (Kd.R_below (rz HO_8.out) hb); have n1_ := Aside0.mk (Kd.R_below (rz HO_9.out) hb); have n2_ := Aside0.mk (Kd.R_elder' (rz HO_10.out) (Kd.R_base ho0) hb); have n3_ := Aside0.mk (Kd.R_elder' (rz HO_11.out) (Kd.R_base ho0) hb); have n4_ := Aside0.mk (Kd.R_below (rz HO426.out) hb); have n5_ := Aside0.mk (Kd.R_lower (Kd.R_new' (Kd.R_new' ho0 (Kd.R_lt (rz HO_10.out))) (Kd.R_lt (rz HO_11.out))) (below_size bl)); have n6_ := Aside0.mk (below_step bl hb); clear HO_8; clear HO_9; clear HO_10; clear HO_11; clear HO426; clear HB; have HO_8 := n0_; have HO_9 := n1_; have HO_10 := n2_; have HO_11 := n3_; have HO426 := n4_; have HO429 := n5_; have HB := n6_; clear n0_ n1_ n2_ n3_ n4_ n5_ n6_; (try clear hb); (try clear hb2); (try clear hk); (try clear hi); (try clear ho0); obtain ⟨Ao35, co35, eo35⟩ := Kd.R_slice HO426.out; subst eo35; obtain ⟨Ao36, co36, eo36⟩ := Kd.R_slice HO429.out; subst eo36) | (go_at_call 20; (with_reducible refine (archivistlaw06_samePairs.calls kj18 _ _ t424 _ _ t427 t430 _ ?side1 ?side2 ?side3 ?side4 A26.out).mono ?_); (case side1 => exact cz (Kd.R_reads' HO426.out).2.2); (case side2 => exact (Kd.R_reads' HO426.out).2.1); (case side3 => exact cz (Kd.R_reads' HO429.out).2.2); (case side4 => exact (Kd.R_reads' HO429.out).2.1); rintro e w' ⟨rfl, ⟨nd, rfl⟩⟩; (try exact dw)) | (go_at_call 23; (with_reducible refine (label_Set_With.calls kj18 (fun k_ => some k_ = (.slice Ao14 t407.length co14 : Value).ownBlock) _ _ t407 (fun k_ => some k_ = (.slice Ao16 t410.length co16 : Value).ownBlock) _ _ t410 t431 _ ?side1 ?side2 A27.out).mono ?_); (case side1 => exact Kd.R_V (Kd.R_tight rfl (Kd.R_apart' (Kd.R_apart' (Kd.R_apart' (HO_8.out) (Kd.R_typed HO_10.out) (by decide)) (Kd.R_typed HO_11.out) (by decide)) (Kd.R_typed HO429.out) (by decide)))); (case side2 => exact Kd.R_V (Kd.R_tight rfl (Kd.R_apart' (Kd.R_apart' (Kd.R_apart' (HO_9.out) (Kd.R_typed HO_10.out) (by decide)) (Kd.R_typed HO_11.out) (by decide)) (Kd.R_typed HO429.out) (by decide)))); rintro e w37 ⟨v432, rfl, ho0, hb⟩; have n0_ := Aside0.mk (Kd.R_elder' (rz HO_8.out) (Kd.R_base ho0) hb); have n1_ := Aside0.mk (Kd.R_elder' (rz HO_9.out) (Kd.R_base ho0) hb); have n2_ := Aside0.mk (Kd.R_below (rz HO_10.out) hb); have n3_ := Aside0.mk (Kd.R_below (rz HO_11.out) hb); have n4_ := Aside0.mk (Kd.R_elder' (rz HO426.out) (Kd.R_base ho0) hb); have n5_ := Aside0.mk (Kd.R_below (rz HO429.out) hb); have n6_ := Aside0.mk (Kd.R_lower (Kd.R_new' (Kd.R_new' (Kd.R_new' (Kd.R_mono (ok' := fun k_ => True) ho0 (fun _ hk_ => trivial)) (Kd.R_lt (rz HO_8.out))) (Kd.R_lt (rz HO_9.out))) (Kd.R_lt (rz HO426.out))) (below_size bl)); have n7_ := Aside0.mk (below_step bl hb); clear HO_8; clear HO_9; clear HO_10; clear HO_11; clear HO426; clear HO429; clear HB; have HO_8 := n0_; have HO_9 := n1_; have HO_10 := n2_; have HO_11 := n3_; have HO426 := n4_; have HO429 := n5_; have HO433 := n6_; have HB := n7_; clear n0_ n1_ n2_ n3_ n4_ n5_ n6_ n7_; (try clear hb); (try clear hb2); (try clear hk); (try clear hi); (try clear ho0); obtain ⟨Ao38, co38, eo38⟩ := Kd.R_slice HO_11.out; subst eo38) | (go_at_call 24; (with_reducible refine (archivistref06_With.calls kj18 _ _ t413 _ _ t416 t434 _ ?side1 ?side2 ?side3 ?side4 A28.out).mono ?_); (case side1 => exact cz (Kd.R_reads' HO_10.out).2.2); (case side2 => exact (Kd.R_reads' HO_10.out).2.1); (case side3 => exact cz (Kd.R_reads' HO_11.out).2.2); (case side4 => exact (Kd.R_reads' HO_11.out).2.1); rintro e w39 ⟨v435, rfl, ho0, hb⟩; have n0_ := Aside0.mk (Kd.R_below (rz HO_8.out) hb); have n1_ := Aside0.mk (Kd.R_below (rz HO_9.out) hb); have n2_ := Aside0.mk (Kd.R_elder' (rz HO_10.out) (Kd.R_base ho0) hb); have n3_ := Aside0.mk (Kd.R_elder' (rz HO_11.out) (Kd.R_base ho0) hb); have n4_ := Aside0.mk (Kd.R_below (rz HO426.out) hb); have n5_ := Aside0.mk (Kd.R_elder' (rz HO429.out) (Kd.R_base ho0) hb); have n6_ := Aside0.mk (Kd.R_below (rz HO433.out) hb); have n7_ := Aside0.mk (Kd.R_lower (Kd.R_new' (Kd.R_new' (Kd.R_new' ho0 (Kd.R_lt (rz HO_10.out))) (Kd.R_lt (rz HO_11.out))) (Kd.R_lt (rz HO429.out))) (below_size bl)); have n8_ := Aside0.mk (below_step bl hb); clear HO_8; clear HO_9; clear HO_10; clear HO_11; clear HO426; clear HO429; clear HO433; clear HB; have HO_8 := n0_; have HO_9 := n1_; have HO_10 := n2_; have HO_11 := n3_; have HO426 := n4_; have HO429 := n5_; have HO433 := n6_; have HO436 := n7_; have HB := n8_; clear n0_ n1_ n2_ n3_ n4_ n5_ n6_ n7_ n8_; (try clear hb); (try clear hb2); (try clear hk); (try clear hi); (try clear ho0); obtain ⟨Ao40, co40, eo40⟩ := Kd.R_slice HO433.out; subst eo40; obtain ⟨Ao41, co41, eo41⟩ := Kd.R_slice HO436.out; subst eo41) | (go_at_call 20; (with_reducible refine (archivistlaw06_samePairs.calls kj18 _ _ t431 _ _ t434 t437 _ ?side1 ?side2 ?side3 ?side4 A29.out).mono ?_); (case side1 => exact cz (Kd.R_reads' HO433.out).2.2); (case side2 => exact (Kd.R_reads' HO433.out).2.1); (case side3 => exact cz (Kd.R_reads' HO436.out).2.2); (case side4 => exact (Kd.R_reads' HO436.out).2.1); rintro e w' ⟨rfl, ⟨nd, rfl⟩⟩; (try exact dw)))
      repeat (go_quiet (first | (go_at_call 18; (with_reducible refine (label_Set_Get.calls kj18 _ _ t407 x2_18 t420 t421 _ ?side1 ?side2 A22.out).mono ?_); (case side1 => exact cz (Kd.R_reads' HO_8.out).2.2); (case side2 => exact (Kd.R_reads' HO_8.out).2.1); rintro e w31 ⟨rfl, hb⟩; have n0_ := Aside0.mk (Kd.R_below (rz HO_8.out) hb); have n1_ := Aside0.mk (Kd.R_below (rz HO_9.out) hb); have n2_ := Aside0.mk (Kd.R_below (rz HO_10.out) hb); have n3_ := Aside0.mk (Kd.R_below (rz HO_11.out) hb); have n4_ := Aside0.mk (below_step bl hb); clear HO_8; clear HO_9; clear HO_10; clear HO_11; clear HB; have HO_8 := n0_; have HO_9 := n1_; have HO_10 := n2_; have HO_11 := n3_; have HB := n4_; clear n0_ n1_ n2_ n3_ n4_; (try clear hb); (try clear hb2); (try clear hk); (try clear hi); obtain ⟨Ao32, co32, eo32⟩ := Kd.R_slice HO_10.out; subst eo32) | (go_at_call 19; (with_reducible refine (archivistref06_Get.calls kj18 _ _ t413 x2_18 t422 t423 _ ?side1 ?side2 A23.out).mono ?_); (case side1 => exact cz (Kd.R_reads' HO_10.out).2.2); (case side2 => exact (Kd.R_reads' HO_10.out).2.1); rintro e w' ⟨rfl, ⟨nd, rfl⟩⟩; (try exact dw)) | (go_at_call 21; (with_reducible refine (label_Of.calls kj18 _ _ t407 t424 _ ?side1 ?side2 A24.out).mono ?_); (case side1 => exact cz (Kd.R_reads' HO_8.out).2.2); (case side2 => exact (Kd.R_reads' HO_8.out).2.1); rintro e w33 ⟨v425, rfl, ho0, hb⟩; have n0_ := Aside0.mk (Kd.R_elder' (rz HO_8.out) (Kd.R_base ho0) hb); have n1_ := Aside0.mk (Kd.R_elder' (rz HO_9.out) (Kd.R_base ho0) hb); have n2_ := Aside0.mk (Kd.R_below (rz HO_10.out) hb); have n3_ := Aside0.mk (Kd.R_below (rz HO_11.out) hb); have n4_ := Aside0.mk (Kd.R_lower (Kd.R_new' (Kd.R_new' ho0 (Kd.R_lt (rz HO_8.out))) (Kd.R_lt (rz HO_9.out))) (below_size bl)); have n5_ := Aside0.mk (below_step bl hb); clear HO_8; clear HO_9; clear HO_10; clear HO_11; clear HB; have HO_8 := n0_; have HO_9 := n1_; have HO_10 := n2_; have HO_11 := n3_; have HO426 := n4_; have HB := n5_; clear n0_ n1_ n2_ n3_ n4_ n5_; (try clear hb); (try clear hb2); (try clear hk); (try clear hi); (try clear ho0)) | (go_at_call 22; (with_reducible refine (archivistref06_Of.calls kj18 _ _ t413 t427 _ ?side1 ?side2 A25.out).mono ?_); (case side1 => exact cz (Kd.R_reads' HO_10.out).2.2); (case side2 => exact (Kd.R_reads' HO_10.out).2.1); rintro e w34 ⟨v428, rfl, ho0, hb⟩; have n0_ := Aside0.mk (Kd.R_below (rz HO_8.out) hb); have n1_ := Aside0.mk (Kd.R_below (rz HO_9.out) hb); have n2_ := Aside0.mk (Kd.R_elder' (rz HO_10.out) (Kd.R_base ho0) hb); have n3_ := Aside0.mk (Kd.R_elder' (rz HO_11.out) (Kd.R_base ho0) hb); have n4_ := Aside0.mk (Kd.R_below (rz HO426.out) hb); have n5_ := Aside0.mk (Kd.R_lower (Kd.R_new' (Kd.R_new' ho0 (Kd.R_lt (rz HO_10.out))) (Kd.R_lt (rz HO_11.out))) (below_size bl)); have n6_ := Aside0.mk (below_step bl hb); clear HO_8; clear HO_9; clear HO_10; clear HO_11; clear HO426; clear HB; have HO_8 := n0_; have HO_9 := n1_; have HO_10 := n2_; have HO_11 := n3_; have HO426 := n4_; have HO429 := n5_; have HB := n6_; clear n0_ n1_ n2_ n3_ n4_ n5_ n6_; (try clear hb); (try clear hb2); (try clear hk); (try clear hi); (try clear ho0); obtain ⟨Ao35, co35, eo35⟩ := Kd.R_slice HO426.out; subst eo35; obtain ⟨Ao36, co36, eo36⟩ := Kd.R_slice HO429.out; subst eo36) | (go_at_call 20; (with_reducible refine (archivistlaw06_samePairs.calls kj18 _ _ t424 _ _ t427 t430 _ ?side1 ?side2 ?side3 ?side4 A26.out).mono ?_); (case side1 => exact cz (Kd.R_reads' HO426.out).2.2); (case side2 => exact (Kd.R_reads' HO426.out).2.1); (case side3 => exact cz (Kd.R_reads' HO429.out).2.2); (case side4 => exact (Kd.R_reads' HO429.out).2.1); rintro e w' ⟨rfl, ⟨nd, rfl⟩⟩; (try exact dw)) | (go_at_call 23; (with_reducible refine (label_Set_With.calls kj18 (fun k_ => some k_ = (.slice Ao14 t407.length co14 : Value).ownBlock) _ _ t407 (fun k_ => some k_ = (.slice Ao16 t410.length co16 : Value).ownBlock) _ _ t410 t431 _ ?side1 ?side2 A27.out).mono ?_); (case side1 => exact Kd.R_V (Kd.R_tight rfl (Kd.R_apart' (Kd.R_apart' (Kd.R_apart' (HO_8.out) (Kd.R_typed HO_10.out) (by decide)) (Kd.R_typed HO_11.out) (by decide)) (Kd.R_typed HO429.out) (by decide)))); (case side2 => exact Kd.R_V (Kd.R_tight rfl (Kd.R_apart' (Kd.R_apart' (Kd.R_apart' (HO_9.out) (Kd.R_typed HO_10.out) (by decide)) (Kd.R_typed HO_11.out) (by decide)) (Kd.R_typed HO429.out) (by decide)))); rintro e w37 ⟨v432, rfl, ho0, hb⟩; have n0_ := Aside0.mk (Kd.R_elder' (rz HO_8.out) (Kd.R_base ho0) hb); have n1_ := Aside0.mk (Kd.R_elder' (rz HO_9.out) (Kd.R_base ho0) hb); have n2_ := Aside0.mk (Kd.R_below (rz HO_10.out) hb); have n3_ := Aside0.mk (Kd.R_below (rz HO_11.out) hb); have n4_ := Aside0.mk (Kd.R_elder' (rz HO426.out) (Kd.R_base ho0) hb); have n5_ := Aside0.mk (Kd.R_below (rz HO429.out) hb); have n6_ := Aside0.mk (Kd.R_lower (Kd.R_new' (Kd.R_new' (Kd.R_new' (Kd.R_mono (ok' := fun k_ => True) ho0 (fun _ hk_ => trivial)) (Kd.R_lt (rz HO_8.out))) (Kd.R_lt (rz HO_9.out))) (Kd.R_lt (rz HO426.out))) (below_size bl)); have n7_ := Aside0.mk (below_step bl hb); clear HO_8; clear HO_9; clear HO_10; clear HO_11; clear HO426; clear HO429; clear HB; have HO_8 := n0_; have HO_9 := n1_; have HO_10 := n2_; have HO_11 := n3_; have HO426 := n4_; have HO429 := n5_; have HO433 := n6_; have HB := n7_; clear n0_ n1_ n2_ n3_ n4_ n5_ n6_ n7_; (try clear hb); (try clear hb2); (try clear hk); (try clear hi); (try clear ho0); obtain ⟨Ao38, co38, eo38⟩ := Kd.R_slice HO_11.out; subst eo38) | (go_at_call 24; (with_reducible refine (archivistref06_With.calls kj18 _ _ t413 _ _ t416 t434 _ ?side1 ?side2 ?side3 ?side4 A28.out).mono ?_); (case side1 => exact cz (Kd.R_reads' HO_10.out).2.2); (case side2 => exact (Kd.R_reads' HO_10.out).2.1); (case side3 => exact cz (Kd.R_reads' HO_11.out).2.2); (case side4 => exact (Kd.R_reads' HO_11.out).2.1); rintro e w39 ⟨v435, rfl, ho0, hb⟩; have n0_ := Aside0.mk (Kd.R_below (rz HO_8.out) hb); have n1_ := Aside0.mk (Kd.R_below (rz HO_9.out) hb); have n2_ := Aside0.mk (Kd.R_elder' (rz HO_10.out) (Kd.R_base ho0) hb); have n3_ := Aside0.mk (Kd.R_elder' (rz HO_11.out) (Kd.R_base ho0) hb); have n4_ := Aside0.mk (Kd.R_below (rz HO426.out) hb); have n5_ := Aside0.mk (Kd.R_elder' (rz HO429.out) (Kd.R_base ho0) hb); have n6_ := Aside0.mk (Kd.R_below (rz HO433.out) hb); have n7_ := Aside0.mk (Kd.R_lower (Kd.R_new' (Kd.R_new' (Kd.R_new' ho0 (Kd.R_lt (rz HO_10.out))) (Kd.R_lt (rz HO_11.out))) (Kd.R_lt (rz HO429.out))) (below_size bl)); have n8_ := Aside0.mk (below_step bl hb); clear HO_8; clear HO_9; clear HO_10; clear HO_11; clear HO426; clear HO429; clear HO433; clear HB; have HO_8 := n0_; have HO_9 := n1_; have HO_10 := n2_; have HO_11 := n3_; have HO426 := n4_; have HO429 := n5_; have HO433 := n6_; have HO436 := n7_; have HB := n8_; clear n0_ n1_ n2_ n3_ n4_ n5_ n6_ n7_ n8_; (try clear hb); (try clear hb2); (try clear hk); (try clear hi); (try clear ho0); obtain ⟨Ao40, co40, eo40⟩ := Kd.R_slice HO433.out; subst eo40; obtain ⟨Ao41, co41, eo41⟩ := Kd.R_slice HO436.out; subst eo41) | (go_at_call 20; (with_reducible refine (archivistlaw06_samePairs.calls kj18 _ _ t431 _ _ t434 t437 _ ?side1 ?side2 ?side3 ?side4 A29.out).mono ?_); (case side1 => exact cz (Kd.R_reads' HO433.out).2.2); (case side2 => exact (Kd.R_reads' HO433.out).2.1); (case side3 => exact cz (Kd.R_reads' HO436.out).2.2); (case side4 => exact (Kd.R_reads' HO436.out).2.1); rintro e w' ⟨rfl, ⟨nd, rfl⟩⟩; (try exact dw))); go_upto_block 0 with (first | (go_at_call 18; (with_reducible refine (label_Set_Get.calls kj18 _ _ t407 x2_18 t420 t421 _ ?side1 ?side2 A22.out).mono ?_); (case side1 => exact cz (Kd.R_reads' HO_8.out).2.2); (case side2 => exact (Kd.R_reads' HO_8.out).2.1); rintro e w31 ⟨rfl, hb⟩; have n0_ := Aside0.mk (Kd.R_below (rz HO_8.out) hb); have n1_ := Aside0.mk (Kd.R_below (rz HO_9.out) hb); have n2_ := Aside0.mk (Kd.R_below (rz HO_10.out) hb); have n3_ := Aside0.mk (Kd.R_below (rz HO_11.out) hb); have n4_ := Aside0.mk (below_step bl hb); clear HO_8; clear HO_9; clear HO_10; clear HO_11; clear HB; have HO_8 := n0_; have HO_9 := n1_; have HO_10 := n2_; have HO_11 := n3_; have HB := n4_; clear n0_ n1_ n2_ n3_ n4_; (try clear hb); (try clear hb2); (try clear hk); (try clear hi); obtain ⟨Ao32, co32, eo32⟩ := Kd.R_slice HO_10.out; subst eo32) | (go_at_call 19; (with_reducible refine (archivistref06_Get.calls kj18 _ _ t413 x2_18 t422 t423 _ ?side1 ?side2 A23.out).mono ?_); (case side1 => exact cz (Kd.R_reads' HO_10.out).2.2); (case side2 => exact (Kd.R_reads' HO_10.out).2.1); rintro e w' ⟨rfl, ⟨nd, rfl⟩⟩; (try exact dw)) | (go_at_call 21; (with_reducible refine (label_Of.calls kj18 _ _ t407 t424 _ ?side1 ?side2 A24.out).mono ?_); (case side1 => exact cz (Kd.R_reads' HO_8.out).2.2); (case side2 => exact (Kd.R_reads' HO_8.out).2.1); rintro e w33 ⟨v425, rfl, ho0, hb⟩; have n0_ := Aside0.mk (Kd.R_elder' (rz HO_8.out) (Kd.R_base ho0) hb); have n1_ := Aside0.mk (Kd.R_elder' (rz HO_9.out) (Kd.R_base ho0) hb); have n2_ := Aside0.mk (Kd.R_below (rz HO_10.out) hb); have n3_ := Aside0.mk (Kd.R_below (rz HO_11.out) hb); have n4_ := Aside0.mk (Kd.R_lower (Kd.R_new' (Kd.R_new' ho0 (Kd.R_lt (rz HO_8.out))) (Kd.R_lt (rz HO_9.out))) (below_size bl)); have n5_ := Aside0.mk (below_step bl hb); clear HO_8; clear HO_9; clear HO_10; clear HO_11; clear HB; have HO_8 := n0_; have HO_9 := n1_; have HO_10 := n2_; have HO_11 := n3_; have HO426 := n4_; have HB := n5_; clear n0_ n1_ n2_ n3_ n4_ n5_; (try clear hb); (try clear hb2); (try clear hk); (try clear hi); (try clear ho0)) | (go_at_call 22; (with_reducible refine (archivistref06_Of.calls kj18 _ _ t413 t427 _ ?side1 ?side2 A25.out).mono ?_); (case side1 => exact cz (Kd.R_reads' HO_10.out).2.2); (case side2 => exact (Kd.R_reads' HO_10.out).2.1); rintro e w34 ⟨v428, rfl, ho0, hb⟩; have n0_ := Aside0.mk (Kd.R_below (rz HO_8.out) hb); have n1_ := Aside0.mk (Kd.R_below (rz HO_9.out) hb); have n2_ := Aside0.mk (Kd.R_elder' (rz HO_10.out) (Kd.R_base ho0) hb); have n3_ := Aside0.mk (Kd.R_elder' (rz HO_11.out) (Kd.R_base ho0) hb); have n4_ := Aside0.mk (Kd.R_below (rz HO426.out) hb); have n5_ := Aside0.mk (Kd.R_lower (Kd.R_new' (Kd.R_new' ho0 (Kd.R_lt (rz HO_10.out))) (Kd.R_lt (rz HO_11.out))) (below_size bl)); have n6_ := Aside0.mk (below_step bl hb); clear HO_8; clear HO_9; clear HO_10; clear HO_11; clear HO426; clear HB; have HO_8 := n0_; have HO_9 := n1_; have HO_10 := n2_; have HO_11 := n3_; have HO426 := n4_; have HO429 := n5_; have HB := n6_; clear n0_ n1_ n2_ n3_ n4_ n5_ n6_; (try clear hb); (try clear hb2); (try clear hk); (try clear hi); (try clear ho0); obtain ⟨Ao35, co35, eo35⟩ := Kd.R_slice HO426.out; subst eo35; obtain ⟨Ao36, co36, eo36⟩ := Kd.R_slice HO429.out; subst eo36) | (go_at_call 20; (with_reducible refine (archivistlaw06_samePairs.calls kj18 _ _ t424 _ _ t427 t430 _ ?side1 ?side2 ?side3 ?side4 A26.out).mono ?_); (case side1 => exact cz (Kd.R_reads' HO426.out).2.2); (case side2 => exact (Kd.R_reads' HO426.out).2.1); (case side3 => exact cz (Kd.R_reads' HO429.out).2.2); (case side4 => exact (Kd.R_reads' HO429.out).2.1); rintro e w' ⟨rfl, ⟨nd, rfl⟩⟩; (try exact dw)) | (go_at_call 23; (with_reducible refine (label_Set_With.calls kj18 (fun k_ => some k_ = (.slice Ao14 t407.length co14 : Value).ownBlock) _ _ t407 (fun k_ => some k_ = (.slice Ao16 t410.length co16 : Value).ownBlock) _ _ t410 t431 _ ?side1 ?side2 A27.out).mono ?_); (case side1 => exact Kd.R_V (Kd.R_tight rfl (Kd.R_apart' (Kd.R_apart' (Kd.R_apart' (HO_8.out) (Kd.R_typed HO_10.out) (by decide)) (Kd.R_typed HO_11.out) (by decide)) (Kd.R_typed HO429.out) (by decide)))); (case side2 => exact Kd.R_V (Kd.R_tight rfl (Kd.R_apart' (Kd.R_apart' (Kd.R_apart' (HO_9.out) (Kd.R_typed HO_10.out) (by decide)) (Kd.R_typed HO_11.out) (by decide)) (Kd.R_typed HO429.out) (by decide)))); rintro e w37 ⟨v432, rfl, ho0, hb⟩; have n0_ := Aside0.mk (Kd.R_elder' (rz HO_8.out) (Kd.R_base ho0) hb); have n1_ := Aside0.mk (Kd.R_elder' (rz HO_9.out) (Kd.R_base ho0) hb); have n2_ := Aside0.mk (Kd.R_below (rz HO_10.out) hb); have n3_ := Aside0.mk (Kd.R_below (rz HO_11.out) hb); have n4_ := Aside0.mk (Kd.R_elder' (rz HO426.out) (Kd.R_base ho0) hb); have n5_ := Aside0.mk (Kd.R_below (rz HO429.out) hb); have n6_ := Aside0.mk (Kd.R_lower (Kd.R_new' (Kd.R_new' (Kd.R_new' (Kd.R_mono (ok' := fun k_ => True) ho0 (fun _ hk_ => trivial)) (Kd.R_lt (rz HO_8.out))) (Kd.R_lt (rz HO_9.out))) (Kd.R_lt (rz HO426.out))) (below_size bl)); have n7_ := Aside0.mk (below_step bl hb); clear HO_8; clear HO_9; clear HO_10; clear HO_11; clear HO426; clear HO429; clear HB; have HO_8 := n0_; have HO_9 := n1_; have HO_10 := n2_; have HO_11 := n3_; have HO426 := n4_; have HO429 := n5_; have HO433 := n6_; have HB := n7_; clear n0_ n1_ n2_ n3_ n4_ n5_ n6_ n7_; (try clear hb); (try clear hb2); (try clear hk); (try clear hi); (try clear ho0); obtain ⟨Ao38, co38, eo38⟩ := Kd.R_slice HO_11.out; subst eo38) | (go_at_call 24; (with_reducible refine (archivistref06_With.calls kj18 _ _ t413 _ _ t416 t434 _ ?side1 ?side2 ?side3 ?side4 A28.out).mono ?_); (case side1 => exact cz (Kd.R_reads' HO_10.out).2.2); (case side2 => exact (Kd.R_reads' HO_10.out).2.1); (case side3 => exact cz (Kd.R_reads' HO_11.out).2.2); (case side4 => exact (Kd.R_reads' HO_11.out).2.1); rintro e w39 ⟨v435, rfl, ho0, hb⟩; have n0_ := Aside0.mk (Kd.R_below (rz HO_8.out) hb); have n1_ := Aside0.mk (Kd.R_below (rz HO_9.out) hb); have n2_ := Aside0.mk (Kd.R_elder' (rz HO_10.out) (Kd.R_base ho0) hb); have n3_ := Aside0.mk (Kd.R_elder' (rz HO_11.out) (Kd.R_base ho0) hb); have n4_ := Aside0.mk (Kd.R_below (rz HO426.out) hb); have n5_ := Aside0.mk (Kd.R_elder' (rz HO429.out) (Kd.R_base ho0) hb); have n6_ := Aside0.mk (Kd.R_below (rz HO433.out) hb); have n7_ := Aside0.mk (Kd.R_lower (Kd.R_new' (Kd.R_new' (Kd.R_new' ho0 (Kd.R_lt (rz HO_10.out))) (Kd.R_lt (rz HO_11.out))) (Kd.R_lt (rz HO429.out))) (below_size bl)); have n8_ := Aside0.mk (below_step bl hb); clear HO_8; clear HO_9; clear HO_10; clear HO_11; clear HO426; clear HO429; clear HO433; clear HB; have HO_8 := n0_; have HO_9 := n1_; have HO_10 := n2_; have HO_11 := n3_; have HO426 := n4_; have HO429 := n5_; have HO433 := n6_; have HO436 := n7_; have HB := n8_; clear n0_ n1_ n2_ n3_ n4_ n5_ n6_ n7_ n8_; (try clear hb); (try clear hb2); (try clear hk); (try clear hi); (try clear ho0); obtain ⟨Ao40, co40, eo40⟩ := Kd.R_slice HO433.out; subst eo40; obtain ⟨Ao41, co41, eo41⟩ := Kd.R_slice HO436.out; subst eo41) | (go_at_call 20; (with_reducible refine (archivistlaw06_samePairs.calls kj18 _ _ t431 _ _ t434 t437 _ ?side1 ?side2 ?side3 ?side4 A29.out).mono ?_); (case side1 => exact cz (Kd.R_reads' HO433.out).2.2); (case side2 => exact (Kd.R_reads' HO433.out).2.1); (case side3 => exact cz (Kd.R_reads' HO436.out).2.2); (case side4 => exact (Kd.R_reads' HO436.out).2.1); rintro e w' ⟨rfl, ⟨nd, rfl⟩⟩; (try exact dw))))
      (try simp only [Act.put, List.setIfInBounds_toArray, List.set_cons_zero, List.set_cons_succ])
      go_cut [18] (fun v18 wc => ∃ (kq : Nat) (x18_29 : Bool), v18 = .bool x18_29 ∧ Aside0 (archivistlaw06_LabelTells.j3 kq x2_18 true t407 t410 t413 t416 t420 t421 t422 t423 t430 t437 x18_29 = some r) ∧ Aside0 (kq ≤ kj18) ∧ Aside0 (Kd.R k29 29 wc w.heap.size (fun k_ => some k_ ≠ ((.slice Ao16 t410.length co16) : Value).ownBlock) (.slice Ao14 t407.length co14) t407) ∧ Aside0 (Kd.R k29 29 wc w.heap.size (fun k_ => some k_ ≠ ((.slice Ao14 t407.length co14) : Value).ownBlock) (.slice Ao16 t410.length co16) t410) ∧ Aside0 (Kd.R k38 38 wc w.heap.size (fun k_ => some k_ ≠ ((.slice Ao38 t416.length co38) : Value).ownBlock) (.slice Ao32 t413.length co32) t413) ∧ Aside0 (Kd.R k38 38 wc w.heap.size (fun k_ => some k_ ≠ ((.slice Ao32 t413.length co32) : Value).ownBlock) (.slice Ao38 t416.length co38) t416) ∧ Aside0 (Below w.heap.size w wc))
      case first =>
       have H := HC30.out
       clear HC30
       have H' := Aside0.mk H
       clear H
       go_wp2
       repeat (go_quiet (fail); try go_wp2)
       go_loopg [18, 19] kj18 (fun kq v18 v19 w' => ∃ (x18_3 : Bool) (x19_3 : Int), v18 = .bool x18_3 ∧ v19 = .int .i64 x19_3 ∧ Aside0 (archivistlaw06_LabelTells.l0 kq x2_18 true t407 t410 t413 t416 t420 t421 t422 t423 t430 t437 x18_3 x19_3 = some r) ∧ Aside0 (kq ≤ kj18) ∧ Aside0 (Kd.R k29 29 w' w.heap.size (fun k_ => some k_ ≠ ((.slice Ao16 t410.length co16) : Value).ownBlock) (.slice Ao14 t407.length co14) t407) ∧ Aside0 (Kd.R k29 29 w' w.heap.size (fun k_ => some k_ ≠ ((.slice Ao14 t407.length co14) : Value).ownBlock) (.slice Ao16 t410.length co16) t410) ∧ Aside0 (Kd.R k38 38 w' w.heap.size (fun k_ => some k_ ≠ ((.slice Ao38 t416.length co38) : Value).ownBlock) (.slice Ao32 t413.length co32) t413) ∧ Aside0 (Kd.R k38 38 w' w.heap.size (fun k_ => some k_ ≠ ((.slice Ao32 t413.length co32) : Value).ownBlock) (.slice Ao38 t416.length co38) t416) ∧ Aside0 (Below w.heap.size w w'))
       case atStart => exact ⟨(((t413.length : Int) == (t416.length : Int))), (0), rs, rs, H', ⟨Nat.le_refl _⟩, ⟨by (with_reducible repeat (first | apply Kd.R_alloc | apply Kd.R_drewN | apply Kd.R_drew)); exact Kd.R_mono HO_8.out (fun _ hk => hk.1.1)⟩, ⟨by (with_reducible repeat (first | apply Kd.R_alloc | apply Kd.R_drewN | apply Kd.R_drew)); exact Kd.R_mono HO_9.out (fun _ hk => hk.1.1)⟩, ⟨by (with_reducible repeat (first | apply Kd.R_alloc | apply Kd.R_drewN | apply Kd.R_drew)); exact Kd.R_mono HO_10.out (fun _ hk => hk.1.1)⟩, ⟨by (with_reducible repeat (first | apply Kd.R_alloc | apply Kd.R_drewN | apply Kd.R_drew)); exact Kd.R_mono HO_11.out (fun _ hk => hk.1.1)⟩, ⟨bl⟩⟩
       case round =>
        clear H'
        try clear c1
        try clear c2
        try clear p2
        try clear c3
        try clear p4
        try clear q4
        try clear hx4
        try clear qi4
        try clear c5
        try clear c18
        try clear c18b0
        try clear c18b1
        try clear c20
        try clear c21
        try clear c21b0
        try clear c21b1
        try clear p41
        try clear q41
        try clear hx41
        try clear qi41
        try clear hx419_0
        try clear hx419_1
        try clear p2
        try clear p4
        try clear p419
        try clear q4
        try clear q419
        obtain ⟨x18_3, x19_3, rfl, rfl, HA, HK3, HO_8, HO_9, HO_10, HO_11, HB⟩ := hrel
        cases gk with
        | zero => exact absurd HA.out (by simp [archivistlaw06_LabelTells.l0])
        | succ k3 =>
         have H := HA.out
         clear HA
         simp only [archivistlaw06_LabelTells.l0] at H
         by_cases c42 : x19_3 < (t413.length : Int)
         ·rw [if_pos c42] at H
          have c42b0 := decide_eq_true c42
          clear c42
          (first | rw [c42b0] | (simp only [i64_w, i32_w]; rw [c42b0]) | skip)
          by_cases c43 : x18_3 = true
          ·subst c43
           have H1 : (if 0 ≤ x19_3 then (if x19_3 < (t416.length : Int) then (archivistlaw06_LabelTells.l0 k3 x2_18 true t407 t410 t413 t416 t420 t421 t422 t423 t430 t437 ((((rd_T38 t413 x19_3).f0).toList) == (((rd_T38 t416 x19_3).f0).toList) && ((((rd_T38 t413 x19_3).f1).toList) == (((rd_T38 t416 x19_3).f1).toList))) (wrap64 (x19_3 + 1))) else (none)) else (none)) = some r := by rw [if_pos rfl] at H; exact H
           clear H
           have H := H1
           clear H1
           by_cases c44 : 0 ≤ x19_3
           ·rw [if_pos c44] at H
            have c44b0 := decide_eq_true c44
            clear c44
            by_cases c45 : x19_3 < (t416.length : Int)
            ·rw [if_pos c45] at H
             have c45b0 := decide_eq_true c45
             clear c45
             have H' := Aside0.mk H
             clear H
             have p438 : 0 ≤ (x19_3 : Int) := od
             have q438 : x19_3 < (t413.length : Int) := od
             obtain ⟨ad438, e438, hx438_0, hx438_1⟩ := at_T38 (Kd.R_reads' HO_10.out).2.2 x19_3 p438 q438
             cases e438
             replace p438 := eq_true p438
             replace q438 := eq_true q438
             have p439 : 0 ≤ (x19_3 : Int) := od
             have q439 : x19_3 < (t416.length : Int) := od
             obtain ⟨ad439, e439, hx439_0, hx439_1⟩ := at_T38 (Kd.R_reads' HO_11.out).2.2 x19_3 p439 q439
             cases e439
             replace p439 := eq_true p439
             replace q439 := eq_true q439
             go_wp2
             repeat (go_quiet (fail); try go_wp2)
             go_roundg k3
             case measure => have := HJ9.out; have := HJ18.out; have := HK3.out; omega
             case rel => exact ⟨(((((rd_T38 t413 x19_3).f0).toList) == (((rd_T38 t416 x19_3).f0).toList) && ((((rd_T38 t413 x19_3).f1).toList) == (((rd_T38 t416 x19_3).f1).toList)))), (wrap64 (x19_3 + 1)), rs, rs, H', ⟨by have := HJ9.out; have := HJ18.out; have := HK3.out; omega⟩, ⟨rz HO_8.out⟩, ⟨rz HO_9.out⟩, ⟨rz HO_10.out⟩, ⟨rz HO_11.out⟩, ⟨bl⟩⟩
            ·rw [if_neg c45] at H
             exact absurd H (by simp)
           ·rw [if_neg c44] at H
            exact absurd H (by simp)
          ·replace c43 := Bool.eq_false_iff.mpr c43
           subst c43
           have H1 : (archivistlaw06_LabelTells.j3 k3 x2_18 true t407 t410 t413 t416 t420 t421 t422 t423 t430 t437 false) = some r := by rw [if_neg (show ¬ (false = true) by decide)] at H; exact H
           clear H
           have H := H1
           clear H1
           have H' := Aside0.mk H
           clear H
           go_wp2
           repeat (go_quiet (fail); try go_wp2)
           go_meet
           case rel => exact ⟨_, (false), rs, H', ⟨by have := HJ9.out; have := HJ18.out; have := HK3.out; first | omega | exact Nat.le_refl _⟩, ⟨rz HO_8.out⟩, ⟨rz HO_9.out⟩, ⟨rz HO_10.out⟩, ⟨rz HO_11.out⟩, ⟨bl⟩⟩
         ·rw [if_neg c42] at H
          have c42b0 : decide (x19_3 < (t413.length : Int)) = false := decide_eq_false c42
          clear c42
          (first | rw [c42b0] | (simp only [i64_w, i32_w]; rw [c42b0]) | skip)
          have H' := Aside0.mk H
          clear H
          go_wp2
          repeat (go_quiet (fail); try go_wp2)
          go_meet
          case rel => exact ⟨_, (x18_3), rs, H', ⟨by have := HJ9.out; have := HJ18.out; have := HK3.out; first | omega | exact Nat.le_refl _⟩, ⟨rz HO_8.out⟩, ⟨rz HO_9.out⟩, ⟨rz HO_10.out⟩, ⟨rz HO_11.out⟩, ⟨bl⟩⟩
      case rest =>
       clear HC30
       try clear c1
       try clear c2
       try clear p2
       try clear c3
       try clear c4
       try clear p4
       try clear q4
       try clear hx4
       try clear qi4
       try clear c5
       try clear p6
       try clear c18
       try clear c18b0
       try clear c18b1
       try clear c20
       try clear c21
       try clear c21b0
       try clear c21b1
       try clear p41
       try clear q41
       try clear hx41
       try clear qi41
       try clear c42
       try clear c42b0
       try clear c43
       try clear p43
       try clear q43
       try clear hx43
       try clear c44
       try clear c44b0
       try clear c45
       try clear c45b0
       try clear hx419_0
       try clear hx419_1
       try clear hx438_0
       try clear hx438_1
       try clear hx439_0
       try clear hx439_1
       try clear p2
       try clear p4
       try clear p41
       try clear p419
       try clear p438
       try clear p439
       try clear q4
       try clear q41
       try clear q419
       try clear q438
       try clear q439
       obtain ⟨kq, x18_29, rfl, HA, HJ29, HO_8, HO_9, HO_10, HO_11, HB⟩ := hcut
       cases kq with
       | zero => exact absurd HA.out (by simp [archivistlaw06_LabelTells.j3])
       | succ kj29 =>
        have H := HA.out
        clear HA
        simp only [archivistlaw06_LabelTells.j3] at H
        by_cases c46 : true = true
        ·clear c46
         have H1 : (if t430 = true then (if t437 = true then (if t420.toList = t422.toList then (if (t421 == t423) = true then ((label_Name.f kj29 x2_18).bind fun t440 => ((archivistref06_Name.f kj29 x2_18).bind fun t441 => (if (t440 == t441) = true then ((label_Right.f kj29 t407).bind fun t442 => ((archivistref06_Right.f kj29 t413).bind fun t443 => (if (t442 == t443) = true then ((label_Set_Text.f kj29 t407).bind fun t444 => ((archivistref06_Text.f kj29 t413).bind fun t445 => (if t444.toList = t445.toList then ((label_Order.f kj29 t407 t410).bind fun t446 => ((archivistref06_Order.f kj29 t413 t416).bind fun t447 => (if t446 = t447 then ((label_Same.f kj29 t407 t410).bind fun t448 => (some (t448 == x18_29))) else (none)))) else (none)))) else (none)))) else (none)))) else (none)) else (none)) else (none)) else (none)) = some r := by first | (rw [if_pos rfl] at H; exact H) | (rw [if_pos trivial] at H; exact H)
         clear H
         have H := H1
         clear H1
         by_cases c47 : t430 = true
         ·subst c47
          have H1 : (if t437 = true then (if t420.toList = t422.toList then (if (t421 == t423) = true then ((label_Name.f kj29 x2_18).bind fun t440 => ((archivistref06_Name.f kj29 x2_18).bind fun t441 => (if (t440 == t441) = true then ((label_Right.f kj29 t407).bind fun t442 => ((archivistref06_Right.f kj29 t413).bind fun t443 => (if (t442 == t443) = true then ((label_Set_Text.f kj29 t407).bind fun t444 => ((archivistref06_Text.f kj29 t413).bind fun t445 => (if t444.toList = t445.toList then ((label_Order.f kj29 t407 t410).bind fun t446 => ((archivistref06_Order.f kj29 t413 t416).bind fun t447 => (if t446 = t447 then ((label_Same.f kj29 t407 t410).bind fun t448 => (some (t448 == x18_29))) else (none)))) else (none)))) else (none)))) else (none)))) else (none)) else (none)) else (none)) = some r := by first | (rw [if_pos rfl] at H; exact H) | (rw [if_pos trivial] at H; exact H)
          clear H
          have H := H1
          clear H1
          by_cases c48 : t437 = true
          ·subst c48
           have H1 : (if t420.toList = t422.toList then (if (t421 == t423) = true then ((label_Name.f kj29 x2_18).bind fun t440 => ((archivistref06_Name.f kj29 x2_18).bind fun t441 => (if (t440 == t441) = true then ((label_Right.f kj29 t407).bind fun t442 => ((archivistref06_Right.f kj29 t413).bind fun t443 => (if (t442 == t443) = true then ((label_Set_Text.f kj29 t407).bind fun t444 => ((archivistref06_Text.f kj29 t413).bind fun t445 => (if t444.toList = t445.toList then ((label_Order.f kj29 t407 t410).bind fun t446 => ((archivistref06_Order.f kj29 t413 t416).bind fun t447 => (if t446 = t447 then ((label_Same.f kj29 t407 t410).bind fun t448 => (some (t448 == x18_29))) else (none)))) else (none)))) else (none)))) else (none)))) else (none)) else (none)) = some r := by first | (rw [if_pos rfl] at H; exact H) | (rw [if_pos trivial] at H; exact H)
           clear H
           have H := H1
           clear H1
           by_cases c49 : t420.toList = t422.toList
           ·rw [if_pos c49] at H
            have c49b0 : (t420.toList == t422.toList) = true := beq_iff_eq.mpr c49
            have c49b1 : (t420.toList != t422.toList) = false := bne_eq_false_iff_eq.mpr c49
            clear c49
            by_cases c50 : (t421 == t423) = true
            ·rw [if_pos c50] at H
             have c50b0 := c50
             (try (have c50b1 : decide (t421 = t423) = true := by simpa using c50))
             (try (have c50b2 : (t421 == t423) = true := by simpa using c50))
             clear c50
             replace H := Option.bind_eq_some_iff.mp H
             obtain ⟨t440, A510, H⟩ := H
             replace H : ((archivistref06_Name.f kj29 x2_18).bind fun t441 => (if (t440 == t441) = true then ((label_Right.f kj29 t407).bind fun t442 => ((archivistref06_Right.f kj29 t413).bind fun t443 => (if (t442 == t443) = true then ((label_Set_Text.f kj29 t407).bind fun t444 => ((archivistref06_Text.f kj29 t413).bind fun t445 => (if t444.toList = t445.toList then ((label_Order.f kj29 t407 t410).bind fun t446 => ((archivistref06_Order.f kj29 t413 t416).bind fun t447 => (if t446 = t447 then ((label_Same.f kj29 t407 t410).bind fun t448 => (some (t448 == x18_29))) else (none)))) else (none)))) else (none)))) else (none))) = some r := H
             have A51 := Aside0.mk A510
             clear A510
             replace H := Option.bind_eq_some_iff.mp H
             obtain ⟨t441, A520, H⟩ := H
             replace H : (if (t440 == t441) = true then ((label_Right.f kj29 t407).bind fun t442 => ((archivistref06_Right.f kj29 t413).bind fun t443 => (if (t442 == t443) = true then ((label_Set_Text.f kj29 t407).bind fun t444 => ((archivistref06_Text.f kj29 t413).bind fun t445 => (if t444.toList = t445.toList then ((label_Order.f kj29 t407 t410).bind fun t446 => ((archivistref06_Order.f kj29 t413 t416).bind fun t447 => (if t446 = t447 then ((label_Same.f kj29 t407 t410).bind fun t448 => (some (t448 == x18_29))) else (none)))) else (none)))) else (none)))) else (none)) = some r := H
             have A52 := Aside0.mk A520
             clear A520
             by_cases c53 : (t440 == t441) = true
             ·rw [if_pos c53] at H
              have c53b0 := c53
              (try (have c53b1 : decide (t440 = t441) = true := by simpa using c53))
              (try (have c53b2 : (t440 == t441) = true := by simpa using c53))
              clear c53
              replace H := Option.bind_eq_some_iff.mp H
              obtain ⟨t442, A540, H⟩ := H
              replace H : ((archivistref06_Right.f kj29 t413).bind fun t443 => (if (t442 == t443) = true then ((label_Set_Text.f kj29 t407).bind fun t444 => ((archivistref06_Text.f kj29 t413).bind fun t445 => (if t444.toList = t445.toList then ((label_Order.f kj29 t407 t410).bind fun t446 => ((archivistref06_Order.f kj29 t413 t416).bind fun t447 => (if t446 = t447 then ((label_Same.f kj29 t407 t410).bind fun t448 => (some (t448 == x18_29))) else (none)))) else (none)))) else (none))) = some r := H
              have A54 := Aside0.mk A540
              clear A540
              replace H := Option.bind_eq_some_iff.mp H
              obtain ⟨t443, A550, H⟩ := H
              replace H : (if (t442 == t443) = true then ((label_Set_Text.f kj29 t407).bind fun t444 => ((archivistref06_Text.f kj29 t413).bind fun t445 => (if t444.toList = t445.toList then ((label_Order.f kj29 t407 t410).bind fun t446 => ((archivistref06_Order.f kj29 t413 t416).bind fun t447 => (if t446 = t447 then ((label_Same.f kj29 t407 t410).bind fun t448 => (some (t448 == x18_29))) else (none)))) else (none)))) else (none)) = some r := H
              have A55 := Aside0.mk A550
              clear A550
              by_cases c56 : (t442 == t443) = true
              ·rw [if_pos c56] at H
               have c56b0 := c56
               (try (have c56b1 : decide (t442 = t443) = true := by simpa using c56))
               (try (have c56b2 : (t442 == t443) = true := by simpa using c56))
               clear c56
               replace H := Option.bind_eq_some_iff.mp H
               obtain ⟨t444, A570, H⟩ := H
               replace H : ((archivistref06_Text.f kj29 t413).bind fun t445 => (if t444.toList = t445.toList then ((label_Order.f kj29 t407 t410).bind fun t446 => ((archivistref06_Order.f kj29 t413 t416).bind fun t447 => (if t446 = t447 then ((label_Same.f kj29 t407 t410).bind fun t448 => (some (t448 == x18_29))) else (none)))) else (none))) = some r := H
               have A57 := Aside0.mk A570
               clear A570
               replace H := Option.bind_eq_some_iff.mp H
               obtain ⟨t445, A580, H⟩ := H
               replace H : (if t444.toList = t445.toList then ((label_Order.f kj29 t407 t410).bind fun t446 => ((archivistref06_Order.f kj29 t413 t416).bind fun t447 => (if t446 = t447 then ((label_Same.f kj29 t407 t410).bind fun t448 => (some (t448 == x18_29))) else (none)))) else (none)) = some r := H
               have A58 := Aside0.mk A580
               clear A580
               by_cases c59 : t444.toList = t445.toList
               ·rw [if_pos c59] at H
                have c59b0 : (t444.toList == t445.toList) = true := beq_iff_eq.mpr c59
                have c59b1 : (t444.toList != t445.toList) = false := bne_eq_false_iff_eq.mpr c59
                clear c59
                replace H := Option.bind_eq_some_iff.mp H
                obtain ⟨t446, A600, H⟩ := H
                replace H : ((archivistref06_Order.f kj29 t413 t416).bind fun t447 => (if t446 = t447 then ((label_Same.f kj29 t407 t410).bind fun t448 => (some (t448 == x18_29))) else (none))) = some r := H
                have A60 := Aside0.mk A600
                clear A600
                replace H := Option.bind_eq_some_iff.mp H
                obtain ⟨t447, A610, H⟩ := H
                replace H : (if t446 = t447 then ((label_Same.f kj29 t407 t410).bind fun t448 => (some (t448 == x18_29))) else (none)) = some r := H
                have A61 := Aside0.mk A610
                clear A610
                by_cases c62 : t446 = t447
                ·rw [if_pos c62] at H
                 have c62b0 : (t446 == t447) = true := beq_iff_eq.mpr c62
                 have c62b1 : (t446 != t447) = false := bne_eq_false_iff_eq.mpr c62
                 clear c62
                 replace H := Option.bind_eq_some_iff.mp H
                 obtain ⟨t448, A630, H⟩ := H
                 replace H : (some (t448 == x18_29)) = some r := H
                 have A63 := Aside0.mk A630
                 clear A630
                 obtain rfl := Option.some.inj H
                 go_wp2_with (first | (go_at_call 25; (with_reducible refine (label_Name.calls kj29 x2_18 t440 _ A51.out).mono ?_); rintro e w64 ⟨rfl, hb⟩; have n0_ := Aside0.mk (Kd.R_below (rz HO_8.out) hb); have n1_ := Aside0.mk (Kd.R_below (rz HO_9.out) hb); have n2_ := Aside0.mk (Kd.R_below (rz HO_10.out) hb); have n3_ := Aside0.mk (Kd.R_below (rz HO_11.out) hb); have n4_ := Aside0.mk (below_step bl hb); clear HO_8; clear HO_9; clear HO_10; clear HO_11; clear HB; have HO_8 := n0_; have HO_9 := n1_; have HO_10 := n2_; have HO_11 := n3_; have HB := n4_; clear n0_ n1_ n2_ n3_ n4_; (try clear hb); (try clear hb2); (try clear hk); (try clear hi)) | (go_at_call 26; (with_reducible refine (archivistref06_Name.calls kj29 x2_18 t441 _ A52.out).mono ?_); rintro e w' ⟨rfl, ⟨nd, rfl⟩⟩; (try exact dw)) | (go_at_call 27; (with_reducible refine (label_Right.calls kj29 _ _ t407 t442 _ ?side1 ?side2 A54.out).mono ?_); (case side1 => exact cz (Kd.R_reads' HO_8.out).2.2); (case side2 => exact (Kd.R_reads' HO_8.out).2.1); rintro e w65 ⟨rfl, hb⟩; have n0_ := Aside0.mk (Kd.R_below (rz HO_8.out) hb); have n1_ := Aside0.mk (Kd.R_below (rz HO_9.out) hb); have n2_ := Aside0.mk (Kd.R_below (rz HO_10.out) hb); have n3_ := Aside0.mk (Kd.R_below (rz HO_11.out) hb); have n4_ := Aside0.mk (below_step bl hb); clear HO_8; clear HO_9; clear HO_10; clear HO_11; clear HB; have HO_8 := n0_; have HO_9 := n1_; have HO_10 := n2_; have HO_11 := n3_; have HB := n4_; clear n0_ n1_ n2_ n3_ n4_; (try clear hb); (try clear hb2); (try clear hk); (try clear hi)) | (go_at_call 28; (with_reducible refine (archivistref06_Right.calls kj29 _ _ t413 t443 _ ?side1 ?side2 A55.out).mono ?_); (case side1 => exact cz (Kd.R_reads' HO_10.out).2.2); (case side2 => exact (Kd.R_reads' HO_10.out).2.1); rintro e w66 ⟨rfl, hb⟩; have n0_ := Aside0.mk (Kd.R_below (rz HO_8.out) hb); have n1_ := Aside0.mk (Kd.R_below (rz HO_9.out) hb); have n2_ := Aside0.mk (Kd.R_below (rz HO_10.out) hb); have n3_ := Aside0.mk (Kd.R_below (rz HO_11.out) hb); have n4_ := Aside0.mk (below_step bl hb); clear HO_8; clear HO_9; clear HO_10; clear HO_11; clear HB; have HO_8 := n0_; have HO_9 := n1_; have HO_10 := n2_; have HO_11 := n3_; have HB := n4_; clear n0_ n1_ n2_ n3_ n4_; (try clear hb); (try clear hb2); (try clear hk); (try clear hi)) | (go_at_call 29; (with_reducible refine (label_Set_Text.calls kj29 _ _ t407 t444 _ ?side1 ?side2 A57.out).mono ?_); (case side1 => exact cz (Kd.R_reads' HO_8.out).2.2); (case side2 => exact (Kd.R_reads' HO_8.out).2.1); rintro e w67 ⟨rfl, hb⟩; have n0_ := Aside0.mk (Kd.R_below (rz HO_8.out) hb); have n1_ := Aside0.mk (Kd.R_below (rz HO_9.out) hb); have n2_ := Aside0.mk (Kd.R_below (rz HO_10.out) hb); have n3_ := Aside0.mk (Kd.R_below (rz HO_11.out) hb); have n4_ := Aside0.mk (below_step bl hb); clear HO_8; clear HO_9; clear HO_10; clear HO_11; clear HB; have HO_8 := n0_; have HO_9 := n1_; have HO_10 := n2_; have HO_11 := n3_; have HB := n4_; clear n0_ n1_ n2_ n3_ n4_; (try clear hb); (try clear hb2); (try clear hk); (try clear hi)) | (go_at_call 30; (with_reducible refine (archivistref06_Text.calls kj29 _ _ t413 t445 _ ?side1 ?side2 A58.out).mono ?_); (case side1 => exact cz (Kd.R_reads' HO_10.out).2.2); (case side2 => exact (Kd.R_reads' HO_10.out).2.1); rintro e w68 ⟨rfl, hb⟩; have n0_ := Aside0.mk (Kd.R_below (rz HO_8.out) hb); have n1_ := Aside0.mk (Kd.R_below (rz HO_9.out) hb); have n2_ := Aside0.mk (Kd.R_below (rz HO_10.out) hb); have n3_ := Aside0.mk (Kd.R_below (rz HO_11.out) hb); have n4_ := Aside0.mk (below_step bl hb); clear HO_8; clear HO_9; clear HO_10; clear HO_11; clear HB; have HO_8 := n0_; have HO_9 := n1_; have HO_10 := n2_; have HO_11 := n3_; have HB := n4_; clear n0_ n1_ n2_ n3_ n4_; (try clear hb); (try clear hb2); (try clear hk); (try clear hi)) | (go_at_call 31; (with_reducible refine (label_Order.calls kj29 _ _ t407 _ _ t410 t446 _ ?side1 ?side2 ?side3 ?side4 A60.out).mono ?_); (case side1 => exact cz (Kd.R_reads' HO_8.out).2.2); (case side2 => exact (Kd.R_reads' HO_8.out).2.1); (case side3 => exact cz (Kd.R_reads' HO_9.out).2.2); (case side4 => exact (Kd.R_reads' HO_9.out).2.1); rintro e w69 ⟨rfl, hb⟩; have n0_ := Aside0.mk (Kd.R_below (rz HO_8.out) hb); have n1_ := Aside0.mk (Kd.R_below (rz HO_9.out) hb); have n2_ := Aside0.mk (Kd.R_below (rz HO_10.out) hb); have n3_ := Aside0.mk (Kd.R_below (rz HO_11.out) hb); have n4_ := Aside0.mk (below_step bl hb); clear HO_8; clear HO_9; clear HO_10; clear HO_11; clear HB; have HO_8 := n0_; have HO_9 := n1_; have HO_10 := n2_; have HO_11 := n3_; have HB := n4_; clear n0_ n1_ n2_ n3_ n4_; (try clear hb); (try clear hb2); (try clear hk); (try clear hi)) | (go_at_call 32; (with_reducible refine (archivistref06_Order.calls kj29 _ _ t413 _ _ t416 t447 _ ?side1 ?side2 ?side3 ?side4 A61.out).mono ?_); (case side1 => exact cz (Kd.R_reads' HO_10.out).2.2); (case side2 => exact (Kd.R_reads' HO_10.out).2.1); (case side3 => exact cz (Kd.R_reads' HO_11.out).2.2); (case side4 => exact (Kd.R_reads' HO_11.out).2.1); rintro e w' ⟨rfl, ⟨nd, rfl⟩⟩; (try exact dw)) | (go_at_call 33; (with_reducible refine (label_Same.calls kj29 _ _ t407 _ _ t410 t448 _ ?side1 ?side2 ?side3 ?side4 A63.out).mono ?_); (case side1 => exact cz (Kd.R_reads' HO_8.out).2.2); (case side2 => exact (Kd.R_reads' HO_8.out).2.1); (case side3 => exact cz (Kd.R_reads' HO_9.out).2.2); (case side4 => exact (Kd.R_reads' HO_9.out).2.1); rintro e w' ⟨rfl, ⟨nd, rfl⟩⟩; (try exact dw)))
                 repeat (go_quiet (first | (go_at_call 25; (with_reducible refine (label_Name.calls kj29 x2_18 t440 _ A51.out).mono ?_); rintro e w64 ⟨rfl, hb⟩; have n0_ := Aside0.mk (Kd.R_below (rz HO_8.out) hb); have n1_ := Aside0.mk (Kd.R_below (rz HO_9.out) hb); have n2_ := Aside0.mk (Kd.R_below (rz HO_10.out) hb); have n3_ := Aside0.mk (Kd.R_below (rz HO_11.out) hb); have n4_ := Aside0.mk (below_step bl hb); clear HO_8; clear HO_9; clear HO_10; clear HO_11; clear HB; have HO_8 := n0_; have HO_9 := n1_; have HO_10 := n2_; have HO_11 := n3_; have HB := n4_; clear n0_ n1_ n2_ n3_ n4_; (try clear hb); (try clear hb2); (try clear hk); (try clear hi)) | (go_at_call 26; (with_reducible refine (archivistref06_Name.calls kj29 x2_18 t441 _ A52.out).mono ?_); rintro e w' ⟨rfl, ⟨nd, rfl⟩⟩; (try exact dw)) | (go_at_call 27; (with_reducible refine (label_Right.calls kj29 _ _ t407 t442 _ ?side1 ?side2 A54.out).mono ?_); (case side1 => exact cz (Kd.R_reads' HO_8.out).2.2); (case side2 => exact (Kd.R_reads' HO_8.out).2.1); rintro e w65 ⟨rfl, hb⟩; have n0_ := Aside0.mk (Kd.R_below (rz HO_8.out) hb); have n1_ := Aside0.mk (Kd.R_below (rz HO_9.out) hb); have n2_ := Aside0.mk (Kd.R_below (rz HO_10.out) hb); have n3_ := Aside0.mk (Kd.R_below (rz HO_11.out) hb); have n4_ := Aside0.mk (below_step bl hb); clear HO_8; clear HO_9; clear HO_10; clear HO_11; clear HB; have HO_8 := n0_; have HO_9 := n1_; have HO_10 := n2_; have HO_11 := n3_; have HB := n4_; clear n0_ n1_ n2_ n3_ n4_; (try clear hb); (try clear hb2); (try clear hk); (try clear hi)) | (go_at_call 28; (with_reducible refine (archivistref06_Right.calls kj29 _ _ t413 t443 _ ?side1 ?side2 A55.out).mono ?_); (case side1 => exact cz (Kd.R_reads' HO_10.out).2.2); (case side2 => exact (Kd.R_reads' HO_10.out).2.1); rintro e w66 ⟨rfl, hb⟩; have n0_ := Aside0.mk (Kd.R_below (rz HO_8.out) hb); have n1_ := Aside0.mk (Kd.R_below (rz HO_9.out) hb); have n2_ := Aside0.mk (Kd.R_below (rz HO_10.out) hb); have n3_ := Aside0.mk (Kd.R_below (rz HO_11.out) hb); have n4_ := Aside0.mk (below_step bl hb); clear HO_8; clear HO_9; clear HO_10; clear HO_11; clear HB; have HO_8 := n0_; have HO_9 := n1_; have HO_10 := n2_; have HO_11 := n3_; have HB := n4_; clear n0_ n1_ n2_ n3_ n4_; (try clear hb); (try clear hb2); (try clear hk); (try clear hi)) | (go_at_call 29; (with_reducible refine (label_Set_Text.calls kj29 _ _ t407 t444 _ ?side1 ?side2 A57.out).mono ?_); (case side1 => exact cz (Kd.R_reads' HO_8.out).2.2); (case side2 => exact (Kd.R_reads' HO_8.out).2.1); rintro e w67 ⟨rfl, hb⟩; have n0_ := Aside0.mk (Kd.R_below (rz HO_8.out) hb); have n1_ := Aside0.mk (Kd.R_below (rz HO_9.out) hb); have n2_ := Aside0.mk (Kd.R_below (rz HO_10.out) hb); have n3_ := Aside0.mk (Kd.R_below (rz HO_11.out) hb); have n4_ := Aside0.mk (below_step bl hb); clear HO_8; clear HO_9; clear HO_10; clear HO_11; clear HB; have HO_8 := n0_; have HO_9 := n1_; have HO_10 := n2_; have HO_11 := n3_; have HB := n4_; clear n0_ n1_ n2_ n3_ n4_; (try clear hb); (try clear hb2); (try clear hk); (try clear hi)) | (go_at_call 30; (with_reducible refine (archivistref06_Text.calls kj29 _ _ t413 t445 _ ?side1 ?side2 A58.out).mono ?_); (case side1 => exact cz (Kd.R_reads' HO_10.out).2.2); (case side2 => exact (Kd.R_reads' HO_10.out).2.1); rintro e w68 ⟨rfl, hb⟩; have n0_ := Aside0.mk (Kd.R_below (rz HO_8.out) hb); have n1_ := Aside0.mk (Kd.R_below (rz HO_9.out) hb); have n2_ := Aside0.mk (Kd.R_below (rz HO_10.out) hb); have n3_ := Aside0.mk (Kd.R_below (rz HO_11.out) hb); have n4_ := Aside0.mk (below_step bl hb); clear HO_8; clear HO_9; clear HO_10; clear HO_11; clear HB; have HO_8 := n0_; have HO_9 := n1_; have HO_10 := n2_; have HO_11 := n3_; have HB := n4_; clear n0_ n1_ n2_ n3_ n4_; (try clear hb); (try clear hb2); (try clear hk); (try clear hi)) | (go_at_call 31; (with_reducible refine (label_Order.calls kj29 _ _ t407 _ _ t410 t446 _ ?side1 ?side2 ?side3 ?side4 A60.out).mono ?_); (case side1 => exact cz (Kd.R_reads' HO_8.out).2.2); (case side2 => exact (Kd.R_reads' HO_8.out).2.1); (case side3 => exact cz (Kd.R_reads' HO_9.out).2.2); (case side4 => exact (Kd.R_reads' HO_9.out).2.1); rintro e w69 ⟨rfl, hb⟩; have n0_ := Aside0.mk (Kd.R_below (rz HO_8.out) hb); have n1_ := Aside0.mk (Kd.R_below (rz HO_9.out) hb); have n2_ := Aside0.mk (Kd.R_below (rz HO_10.out) hb); have n3_ := Aside0.mk (Kd.R_below (rz HO_11.out) hb); have n4_ := Aside0.mk (below_step bl hb); clear HO_8; clear HO_9; clear HO_10; clear HO_11; clear HB; have HO_8 := n0_; have HO_9 := n1_; have HO_10 := n2_; have HO_11 := n3_; have HB := n4_; clear n0_ n1_ n2_ n3_ n4_; (try clear hb); (try clear hb2); (try clear hk); (try clear hi)) | (go_at_call 32; (with_reducible refine (archivistref06_Order.calls kj29 _ _ t413 _ _ t416 t447 _ ?side1 ?side2 ?side3 ?side4 A61.out).mono ?_); (case side1 => exact cz (Kd.R_reads' HO_10.out).2.2); (case side2 => exact (Kd.R_reads' HO_10.out).2.1); (case side3 => exact cz (Kd.R_reads' HO_11.out).2.2); (case side4 => exact (Kd.R_reads' HO_11.out).2.1); rintro e w' ⟨rfl, ⟨nd, rfl⟩⟩; (try exact dw)) | (go_at_call 33; (with_reducible refine (label_Same.calls kj29 _ _ t407 _ _ t410 t448 _ ?side1 ?side2 ?side3 ?side4 A63.out).mono ?_); (case side1 => exact cz (Kd.R_reads' HO_8.out).2.2); (case side2 => exact (Kd.R_reads' HO_8.out).2.1); (case side3 => exact cz (Kd.R_reads' HO_9.out).2.2); (case side4 => exact (Kd.R_reads' HO_9.out).2.1); rintro e w' ⟨rfl, ⟨nd, rfl⟩⟩; (try exact dw))); try go_wp2_with (first | (go_at_call 25; (with_reducible refine (label_Name.calls kj29 x2_18 t440 _ A51.out).mono ?_); rintro e w64 ⟨rfl, hb⟩; have n0_ := Aside0.mk (Kd.R_below (rz HO_8.out) hb); have n1_ := Aside0.mk (Kd.R_below (rz HO_9.out) hb); have n2_ := Aside0.mk (Kd.R_below (rz HO_10.out) hb); have n3_ := Aside0.mk (Kd.R_below (rz HO_11.out) hb); have n4_ := Aside0.mk (below_step bl hb); clear HO_8; clear HO_9; clear HO_10; clear HO_11; clear HB; have HO_8 := n0_; have HO_9 := n1_; have HO_10 := n2_; have HO_11 := n3_; have HB := n4_; clear n0_ n1_ n2_ n3_ n4_; (try clear hb); (try clear hb2); (try clear hk); (try clear hi)) | (go_at_call 26; (with_reducible refine (archivistref06_Name.calls kj29 x2_18 t441 _ A52.out).mono ?_); rintro e w' ⟨rfl, ⟨nd, rfl⟩⟩; (try exact dw)) | (go_at_call 27; (with_reducible refine (label_Right.calls kj29 _ _ t407 t442 _ ?side1 ?side2 A54.out).mono ?_); (case side1 => exact cz (Kd.R_reads' HO_8.out).2.2); (case side2 => exact (Kd.R_reads' HO_8.out).2.1); rintro e w65 ⟨rfl, hb⟩; have n0_ := Aside0.mk (Kd.R_below (rz HO_8.out) hb); have n1_ := Aside0.mk (Kd.R_below (rz HO_9.out) hb); have n2_ := Aside0.mk (Kd.R_below (rz HO_10.out) hb); have n3_ := Aside0.mk (Kd.R_below (rz HO_11.out) hb); have n4_ := Aside0.mk (below_step bl hb); clear HO_8; clear HO_9; clear HO_10; clear HO_11; clear HB; have HO_8 := n0_; have HO_9 := n1_; have HO_10 := n2_; have HO_11 := n3_; have HB := n4_; clear n0_ n1_ n2_ n3_ n4_; (try clear hb); (try clear hb2); (try clear hk); (try clear hi)) | (go_at_call 28; (with_reducible refine (archivistref06_Right.calls kj29 _ _ t413 t443 _ ?side1 ?side2 A55.out).mono ?_); (case side1 => exact cz (Kd.R_reads' HO_10.out).2.2); (case side2 => exact (Kd.R_reads' HO_10.out).2.1); rintro e w66 ⟨rfl, hb⟩; have n0_ := Aside0.mk (Kd.R_below (rz HO_8.out) hb); have n1_ := Aside0.mk (Kd.R_below (rz HO_9.out) hb); have n2_ := Aside0.mk (Kd.R_below (rz HO_10.out) hb); have n3_ := Aside0.mk (Kd.R_below (rz HO_11.out) hb); have n4_ := Aside0.mk (below_step bl hb); clear HO_8; clear HO_9; clear HO_10; clear HO_11; clear HB; have HO_8 := n0_; have HO_9 := n1_; have HO_10 := n2_; have HO_11 := n3_; have HB := n4_; clear n0_ n1_ n2_ n3_ n4_; (try clear hb); (try clear hb2); (try clear hk); (try clear hi)) | (go_at_call 29; (with_reducible refine (label_Set_Text.calls kj29 _ _ t407 t444 _ ?side1 ?side2 A57.out).mono ?_); (case side1 => exact cz (Kd.R_reads' HO_8.out).2.2); (case side2 => exact (Kd.R_reads' HO_8.out).2.1); rintro e w67 ⟨rfl, hb⟩; have n0_ := Aside0.mk (Kd.R_below (rz HO_8.out) hb); have n1_ := Aside0.mk (Kd.R_below (rz HO_9.out) hb); have n2_ := Aside0.mk (Kd.R_below (rz HO_10.out) hb); have n3_ := Aside0.mk (Kd.R_below (rz HO_11.out) hb); have n4_ := Aside0.mk (below_step bl hb); clear HO_8; clear HO_9; clear HO_10; clear HO_11; clear HB; have HO_8 := n0_; have HO_9 := n1_; have HO_10 := n2_; have HO_11 := n3_; have HB := n4_; clear n0_ n1_ n2_ n3_ n4_; (try clear hb); (try clear hb2); (try clear hk); (try clear hi)) | (go_at_call 30; (with_reducible refine (archivistref06_Text.calls kj29 _ _ t413 t445 _ ?side1 ?side2 A58.out).mono ?_); (case side1 => exact cz (Kd.R_reads' HO_10.out).2.2); (case side2 => exact (Kd.R_reads' HO_10.out).2.1); rintro e w68 ⟨rfl, hb⟩; have n0_ := Aside0.mk (Kd.R_below (rz HO_8.out) hb); have n1_ := Aside0.mk (Kd.R_below (rz HO_9.out) hb); have n2_ := Aside0.mk (Kd.R_below (rz HO_10.out) hb); have n3_ := Aside0.mk (Kd.R_below (rz HO_11.out) hb); have n4_ := Aside0.mk (below_step bl hb); clear HO_8; clear HO_9; clear HO_10; clear HO_11; clear HB; have HO_8 := n0_; have HO_9 := n1_; have HO_10 := n2_; have HO_11 := n3_; have HB := n4_; clear n0_ n1_ n2_ n3_ n4_; (try clear hb); (try clear hb2); (try clear hk); (try clear hi)) | (go_at_call 31; (with_reducible refine (label_Order.calls kj29 _ _ t407 _ _ t410 t446 _ ?side1 ?side2 ?side3 ?side4 A60.out).mono ?_); (case side1 => exact cz (Kd.R_reads' HO_8.out).2.2); (case side2 => exact (Kd.R_reads' HO_8.out).2.1); (case side3 => exact cz (Kd.R_reads' HO_9.out).2.2); (case side4 => exact (Kd.R_reads' HO_9.out).2.1); rintro e w69 ⟨rfl, hb⟩; have n0_ := Aside0.mk (Kd.R_below (rz HO_8.out) hb); have n1_ := Aside0.mk (Kd.R_below (rz HO_9.out) hb); have n2_ := Aside0.mk (Kd.R_below (rz HO_10.out) hb); have n3_ := Aside0.mk (Kd.R_below (rz HO_11.out) hb); have n4_ := Aside0.mk (below_step bl hb); clear HO_8; clear HO_9; clear HO_10; clear HO_11; clear HB; have HO_8 := n0_; have HO_9 := n1_; have HO_10 := n2_; have HO_11 := n3_; have HB := n4_; clear n0_ n1_ n2_ n3_ n4_; (try clear hb); (try clear hb2); (try clear hk); (try clear hi)) | (go_at_call 32; (with_reducible refine (archivistref06_Order.calls kj29 _ _ t413 _ _ t416 t447 _ ?side1 ?side2 ?side3 ?side4 A61.out).mono ?_); (case side1 => exact cz (Kd.R_reads' HO_10.out).2.2); (case side2 => exact (Kd.R_reads' HO_10.out).2.1); (case side3 => exact cz (Kd.R_reads' HO_11.out).2.2); (case side4 => exact (Kd.R_reads' HO_11.out).2.1); rintro e w' ⟨rfl, ⟨nd, rfl⟩⟩; (try exact dw)) | (go_at_call 33; (with_reducible refine (label_Same.calls kj29 _ _ t407 _ _ t410 t448 _ ?side1 ?side2 ?side3 ?side4 A63.out).mono ?_); (case side1 => exact cz (Kd.R_reads' HO_8.out).2.2); (case side2 => exact (Kd.R_reads' HO_8.out).2.1); (case side3 => exact cz (Kd.R_reads' HO_9.out).2.2); (case side4 => exact (Kd.R_reads' HO_9.out).2.1); rintro e w' ⟨rfl, ⟨nd, rfl⟩⟩; (try exact dw))))
                 go_ret
                 exact ⟨by first | rfl | (simp [errW_none, errW_some] <;> rfl) | (simp [*, errW_none, errW_some] <;> rfl), bl⟩
                ·rw [if_neg c62] at H
                 exact absurd H (by simp)
               ·rw [if_neg c59] at H
                exact absurd H (by simp)
              ·rw [if_neg c56] at H
               exact absurd H (by simp)
             ·rw [if_neg c53] at H
              exact absurd H (by simp)
            ·rw [if_neg c50] at H
             exact absurd H (by simp)
           ·rw [if_neg c49] at H
            exact absurd H (by simp)
          ·replace c48 := Bool.eq_false_iff.mpr c48
           subst c48
           have H1 : (none) = some r := by rw [if_neg (show ¬ (false = true) by decide)] at H; exact H
           clear H
           have H := H1
           clear H1
           exact absurd H (by simp)
         ·replace c47 := Bool.eq_false_iff.mpr c47
          subst c47
          have H1 : (none) = some r := by rw [if_neg (show ¬ (false = true) by decide)] at H; exact H
          clear H
          have H := H1
          clear H1
          exact absurd H (by simp)
        ·exact absurd rfl c46
 ·replace c5 := Bool.eq_false_iff.mpr c5
  subst c5
  have H1 : (none) = some r := by rw [if_neg (show ¬ (false = true) by decide)] at H; exact H
  clear H
  have H := H1
  clear H1
  exact absurd H (by simp)

end Go.Proofs.Ytbkhgldinmabiaa.X
