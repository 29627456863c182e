-- Laid by xprint.py, a program of this session's, out of the translation.
import Derived.Test.YtielpefbgdilaaaX0
import Derived.Test.YtielpefbgdilaaaX5
import Derived.Test.YtielpefbgdilaaaX8
import Derived.Test.YtielpefbgdilaaaX10
namespace Go.Proofs.Ytielpefbgdilaaa.X
open Go.RowKit Go.Proofs.YtielpefbgdilaaaW.PrintWords Go.Proofs.YtielpefbgdilaaaW.PrintLast Go.Proofs.YtielpefbgdilaaaW.PrintMore
attribute [local go_sem] max2_int min2_int max_two min_two max_three min_three max_four min_four x_isSome x_str_gtr x_str_leq x_str_geq   -- for this text's walks alone
set_option linter.unusedVariables false
set_option linter.unusedSimpArgs false

/-! ### archivistlaw10_examples: function 8 -/
def archivistlaw10_examples.f (k : Nat)  : Option (Bool) := (logfmt_All.f k (⟨#[97, 61, 49, 32, 98, 61, 34, 120, 32, 121, 34, 32, 99, 32, 57, 61, 50, 32, 97, 61, 51, 32, 61, 122, 32, 34, 113, 34, 32, 100, 61, 34, 117, 110]⟩ : ByteArray)).bind fun t209 => ((logfmt_Of.f k (⟨#[97, 61, 49, 32, 97, 61, 50, 32, 98, 61, 51]⟩ : ByteArray)).bind fun t212 => ((label_Set_Get.f k t212 (⟨#[97]⟩ : ByteArray)).bind fun bt215 => (if (t209.length : Int) = 7 then (if 1 < (t209.length : Int) then (if ((rd_T39 t209 1).f1).toList = ([120, 32, 121] : List UInt8) then (if 2 < (t209.length : Int) then (if ((rd_T39 t209 2).f0).toList = ([99] : List UInt8) then (if ((rd_T39 t209 2).f1).toList = ([] : List UInt8) then (if 3 < (t209.length : Int) then (if ((rd_T39 t209 3).f1).toList = ([51] : List UInt8) then (if 4 < (t209.length : Int) then (if ((rd_T39 t209 4).f0).toList = ([122] : List UInt8) then (if 5 < (t209.length : Int) then (if ((rd_T39 t209 5).f0).toList = ([113] : List UInt8) then (if 6 < (t209.length : Int) then (if ((rd_T39 t209 6).f1).toList = ([34, 117, 110] : List UInt8) then (if (t212.length : Int) = 2 then (if bt215.1.toList = ([49] : List UInt8) then (if bt215.2 = true then (if 0 < (t209.length : Int) then ((logfmt_Put.f k (([(⟨(rd_T39 t209 0).f0, (rd_T39 t209 0).f1⟩ : S39), (⟨(rd_T39 t209 1).f0, (rd_T39 t209 1).f1⟩ : S39)] : List (S39)))).bind fun t229 => (some (t229.toList == ([97, 61, 34, 49, 34, 32, 98, 61, 34, 120, 32, 121, 34] : List UInt8)))) else (none)) else (none)) else (none)) else (none)) else (none)) else (none)) else (none)) else (none)) else (none)) else (none)) else (none)) else (none)) else (none)) else (none)) else (none)) else (none)) else (none)) else (none))))
theorem archivistlaw10_examples.mono : ∀ k, LeO (archivistlaw10_examples.f k ) (archivistlaw10_examples.f (k + 1) ) := by
 intro  k
 unfold archivistlaw10_examples.f
 repeat' first
   | (with_reducible exact label_Set_Get.mono _ _ _)
   | (with_reducible exact logfmt_All.mono _ _)
   | (with_reducible exact logfmt_Of.mono _ _)
   | (with_reducible exact logfmt_Put.mono _ _)
   | (with_reducible exact LeO.refl _)
   | (with_reducible exact LeO.none _)
   | (with_reducible refine LeO.ite ?_ ?_)
   | (with_reducible refine LeO.bind ?_ (fun _ => ?_))
   | exact label_Set_Get.mono _ _ _
   | exact logfmt_All.mono _ _
   | exact logfmt_Of.mono _ _
   | exact logfmt_Put.mono _ _
   | exact LeO.none _
   | refine LeO.ite ?_ ?_
   | refine LeO.bind ?_ (fun _ => ?_)
def archivistlaw10_examples.T4 : Bool × List (List Nat × List Nat) := (true, [([], []), ([0], [0]), ([1], [1]), ([2], [2]), ([3], [3]), ([4, 3], [3, 4]), ([5, 3], [3, 5]), ([6, 3], [3, 6]), ([7, 3], [3, 7]), ([3, 8], [3, 8]), ([9, 3], [9]), ([10], [10]), ([11, 10], [10, 11]), ([12, 10], [10, 12]), ([13, 10], [10, 13]), ([14, 10], [10, 14]), ([10, 15], [10, 15]), ([16, 10], [16]), ([17], [17]), ([18, 17], [17, 18]), ([19, 17], [17, 19]), ([20, 17], [17, 20]), ([21, 17], [17, 21]), ([17, 22], [17, 22]), ([23, 17], [23]), ([24], [24]), ([25, 24], [24, 25]), ([26, 24], [24, 26]), ([27, 24], [24, 27]), ([28, 24], [24, 28]), ([24, 29], [24, 29]), ([30, 24], [30]), ([31], [31]), ([32, 31], [31, 32]), ([33, 31], [31, 33]), ([34, 31], [31, 34]), ([35, 31], [31, 35]), ([31, 36], [31, 36]), ([37, 31], [37]), ([38], [38]), ([39, 38], [38, 39]), ([40, 38], [38, 40]), ([41, 38], [38, 41]), ([42, 38], [38, 42]), ([38, 43], [38, 43]), ([44, 38], [44]), ([45], [45]), ([46, 45], [45, 46]), ([47, 45], [45, 47]), ([48, 45], [45, 48]), ([49, 45], [45, 49]), ([45, 50], [45, 50]), ([51, 45], [51]), ([52], [52]), ([53, 52], [52, 53]), ([54, 52], [52, 54]), ([52, 55], [52, 55]), ([56, 52], [56]), ([57], [57]), ([58, 57], [57, 58]), ([57, 59], [57, 59]), ([60, 57], [60]), ([61], [61]), ([61, 62], [61, 62]), ([63, 61], [63]), ([64], [64]), ([65, 64], [64, 65]), ([66, 64], [64, 66]), ([64], [64]), ([68, 64], [64, 68]), ([69, 64], [64, 69]), ([67, 70, 64], [64, 67, 70]), ([71, 64, 64], [64, 71]), ([72, 64], [64, 72]), ([64, 73], [64, 73]), ([74, 72, 0, 1, 2, 3, 4, 5, 6, 7, 8, 9, 10, 11, 12, 13, 14, 15, 16, 17, 18, 19, 20, 21, 22, 23, 24, 25, 26, 27, 28, 29, 30, 31, 32, 33, 34, 35, 36, 37, 38, 39, 40, 41, 42, 43, 44, 45, 46, 47, 48, 49, 50, 51, 52, 53, 54, 55, 56, 57, 58, 59, 60, 61, 62, 63, 64, 65, 66, 67, 68, 69, 70, 71, 72, 73, 74], [74])])
def archivistlaw10_examples.B4 : List Nat := [0, 1, 3, 7, 15, 31, 63, 127, 255, 511, 1023, 2047, 4095, 8191, 16383, 32767, 65535, 131071, 262143, 524287, 1048575, 2097151, 4194303, 8388607, 16777215, 33554431, 67108863, 134217727, 268435455, 536870911, 1073741823, 2147483647, 4294967295, 8589934591, 17179869183, 34359738367, 68719476735, 137438953471, 274877906943, 549755813887, 1099511627775, 2199023255551, 4398046511103, 8796093022207, 17592186044415, 35184372088831, 70368744177663, 140737488355327, 281474976710655, 562949953421311, 1125899906842623, 2251799813685247, 4503599627370495, 9007199254740991, 18014398509481983, 36028797018963967, 72057594037927935, 144115188075855871, 288230376151711743, 576460752303423487, 1152921504606846975, 2305843009213693951, 4611686018427387903, 9223372036854775807, 18446744073709551615, 36893488147419103231, 73786976294838206463, 147573952589676412927, 36893488147419103231, 332041393326771929087, 922337203685477580799, 2361183241434822606847, 4722366482869645213695, 9444732965739290427391, 18889465931478580854783, 37778931862957161709567]
theorem archivistlaw10_examples.tab4 : rtab .any (opsOf Try.f8 4) = archivistlaw10_examples.T4 := by kernel_rfl
theorem archivistlaw10_examples.bits4 : waitsOk archivistlaw10_examples.T4.2 archivistlaw10_examples.B4 = true := by kernel_rfl
set_option maxHeartbeats 8000000 in
set_option maxRecDepth 100000 in
theorem archivistlaw10_examples.calls (k : Nat)  (r : Bool) (w : World) (h : archivistlaw10_examples.f k  = some r) :
  Calls Try.prog 8 #[] w fun e w' => e = .returned (.bool r) ∧ Below w.heap.size w w' := by
 have hu39 := Try.underlying39
 have HB := Aside0.mk (Below.refl w.heap.size w)
 have H : ((logfmt_All.f k (⟨#[97, 61, 49, 32, 98, 61, 34, 120, 32, 121, 34, 32, 99, 32, 57, 61, 50, 32, 97, 61, 51, 32, 61, 122, 32, 34, 113, 34, 32, 100, 61, 34, 117, 110]⟩ : ByteArray)).bind fun t209 => ((logfmt_Of.f k (⟨#[97, 61, 49, 32, 97, 61, 50, 32, 98, 61, 51]⟩ : ByteArray)).bind fun t212 => ((label_Set_Get.f k t212 (⟨#[97]⟩ : ByteArray)).bind fun bt215 => (if (t209.length : Int) = 7 then (if 1 < (t209.length : Int) then (if ((rd_T39 t209 1).f1).toList = ([120, 32, 121] : List UInt8) then (if 2 < (t209.length : Int) then (if ((rd_T39 t209 2).f0).toList = ([99] : List UInt8) then (if ((rd_T39 t209 2).f1).toList = ([] : List UInt8) then (if 3 < (t209.length : Int) then (if ((rd_T39 t209 3).f1).toList = ([51] : List UInt8) then (if 4 < (t209.length : Int) then (if ((rd_T39 t209 4).f0).toList = ([122] : List UInt8) then (if 5 < (t209.length : Int) then (if ((rd_T39 t209 5).f0).toList = ([113] : List UInt8) then (if 6 < (t209.length : Int) then (if ((rd_T39 t209 6).f1).toList = ([34, 117, 110] : List UInt8) then (if (t212.length : Int) = 2 then (if bt215.1.toList = ([49] : List UInt8) then (if bt215.2 = true then (if 0 < (t209.length : Int) then ((logfmt_Put.f k (([(⟨(rd_T39 t209 0).f0, (rd_T39 t209 0).f1⟩ : S39), (⟨(rd_T39 t209 1).f0, (rd_T39 t209 1).f1⟩ : S39)] : List (S39)))).bind fun t229 => (some (t229.toList == ([97, 61, 34, 49, 34, 32, 98, 61, 34, 120, 32, 121, 34] : List UInt8)))) else (none)) else (none)) else (none)) else (none)) else (none)) else (none)) else (none)) else (none)) else (none)) else (none)) else (none)) else (none)) else (none)) else (none)) else (none)) else (none)) else (none)) else (none))))) = some r := h
 clear h
 replace H := Option.bind_eq_some_iff.mp H
 obtain ⟨t209, A10, H⟩ := H
 replace H : ((logfmt_Of.f k (⟨#[97, 61, 49, 32, 97, 61, 50, 32, 98, 61, 51]⟩ : ByteArray)).bind fun t212 => ((label_Set_Get.f k t212 (⟨#[97]⟩ : ByteArray)).bind fun bt215 => (if (t209.length : Int) = 7 then (if 1 < (t209.length : Int) then (if ((rd_T39 t209 1).f1).toList = ([120, 32, 121] : List UInt8) then (if 2 < (t209.length : Int) then (if ((rd_T39 t209 2).f0).toList = ([99] : List UInt8) then (if ((rd_T39 t209 2).f1).toList = ([] : List UInt8) then (if 3 < (t209.length : Int) then (if ((rd_T39 t209 3).f1).toList = ([51] : List UInt8) then (if 4 < (t209.length : Int) then (if ((rd_T39 t209 4).f0).toList = ([122] : List UInt8) then (if 5 < (t209.length : Int) then (if ((rd_T39 t209 5).f0).toList = ([113] : List UInt8) then (if 6 < (t209.length : Int) then (if ((rd_T39 t209 6).f1).toList = ([34, 117, 110] : List UInt8) then (if (t212.length : Int) = 2 then (if bt215.1.toList = ([49] : List UInt8) then (if bt215.2 = true then (if 0 < (t209.length : Int) then ((logfmt_Put.f k (([(⟨(rd_T39 t209 0).f0, (rd_T39 t209 0).f1⟩ : S39), (⟨(rd_T39 t209 1).f0, (rd_T39 t209 1).f1⟩ : S39)] : List (S39)))).bind fun t229 => (some (t229.toList == ([97, 61, 34, 49, 34, 32, 98, 61, 34, 120, 32, 121, 34] : List UInt8)))) else (none)) else (none)) else (none)) else (none)) else (none)) else (none)) else (none)) else (none)) else (none)) else (none)) else (none)) else (none)) else (none)) else (none)) else (none)) else (none)) else (none)) else (none)))) = some r := H
 have A1 := Aside0.mk A10
 clear A10
 replace H := Option.bind_eq_some_iff.mp H
 obtain ⟨t212, A20, H⟩ := H
 replace H : ((label_Set_Get.f k t212 (⟨#[97]⟩ : ByteArray)).bind fun bt215 => (if (t209.length : Int) = 7 then (if 1 < (t209.length : Int) then (if ((rd_T39 t209 1).f1).toList = ([120, 32, 121] : List UInt8) then (if 2 < (t209.length : Int) then (if ((rd_T39 t209 2).f0).toList = ([99] : List UInt8) then (if ((rd_T39 t209 2).f1).toList = ([] : List UInt8) then (if 3 < (t209.length : Int) then (if ((rd_T39 t209 3).f1).toList = ([51] : List UInt8) then (if 4 < (t209.length : Int) then (if ((rd_T39 t209 4).f0).toList = ([122] : List UInt8) then (if 5 < (t209.length : Int) then (if ((rd_T39 t209 5).f0).toList = ([113] : List UInt8) then (if 6 < (t209.length : Int) then (if ((rd_T39 t209 6).f1).toList = ([34, 117, 110] : List UInt8) then (if (t212.length : Int) = 2 then (if bt215.1.toList = ([49] : List UInt8) then (if bt215.2 = true then (if 0 < (t209.length : Int) then ((logfmt_Put.f k (([(⟨(rd_T39 t209 0).f0, (rd_T39 t209 0).f1⟩ : S39), (⟨(rd_T39 t209 1).f0, (rd_T39 t209 1).f1⟩ : S39)] : List (S39)))).bind fun t229 => (some (t229.toList == ([97, 61, 34, 49, 34, 32, 98, 61, 34, 120, 32, 121, 34] : List UInt8)))) else (none)) else (none)) else (none)) else (none)) else (none)) else (none)) else (none)) else (none)) else (none)) else (none)) else (none)) else (none)) else (none)) else (none)) else (none)) else (none)) else (none)) else (none))) = some r := H
 have A2 := Aside0.mk A20
 clear A20
 replace H := Option.bind_eq_some_iff.mp H
 obtain ⟨⟨t215, t216⟩, A30, H⟩ := H
 replace H : (if (t209.length : Int) = 7 then (if 1 < (t209.length : Int) then (if ((rd_T39 t209 1).f1).toList = ([120, 32, 121] : List UInt8) then (if 2 < (t209.length : Int) then (if ((rd_T39 t209 2).f0).toList = ([99] : List UInt8) then (if ((rd_T39 t209 2).f1).toList = ([] : List UInt8) then (if 3 < (t209.length : Int) then (if ((rd_T39 t209 3).f1).toList = ([51] : List UInt8) then (if 4 < (t209.length : Int) then (if ((rd_T39 t209 4).f0).toList = ([122] : List UInt8) then (if 5 < (t209.length : Int) then (if ((rd_T39 t209 5).f0).toList = ([113] : List UInt8) then (if 6 < (t209.length : Int) then (if ((rd_T39 t209 6).f1).toList = ([34, 117, 110] : List UInt8) then (if (t212.length : Int) = 2 then (if t215.toList = ([49] : List UInt8) then (if t216 = true then (if 0 < (t209.length : Int) then ((logfmt_Put.f k (([(⟨(rd_T39 t209 0).f0, (rd_T39 t209 0).f1⟩ : S39), (⟨(rd_T39 t209 1).f0, (rd_T39 t209 1).f1⟩ : S39)] : List (S39)))).bind fun t229 => (some (t229.toList == ([97, 61, 34, 49, 34, 32, 98, 61, 34, 120, 32, 121, 34] : List UInt8)))) else (none)) else (none)) else (none)) else (none)) else (none)) else (none)) else (none)) else (none)) else (none)) else (none)) else (none)) else (none)) else (none)) else (none)) else (none)) else (none)) else (none)) else (none)) = some r := H
 have A3 := Aside0.mk A30
 clear A30
 by_cases c4 : (t209.length : Int) = 7
 ·rw [if_pos c4] at H
  have c4b0 : ((t209.length : Int) == 7) = true := beq_iff_eq.mpr c4
  have c4b1 : ((t209.length : Int) != 7) = false := bne_eq_false_iff_eq.mpr c4
  clear c4
  by_cases c5 : 1 < (t209.length : Int)
  ·rw [if_pos c5] at H
   have c5b0 := decide_eq_true c5
   have c5b1 : decide (1 < t209.length) = true := decide_eq_true (by omega)
   clear c5
   by_cases c6 : ((rd_T39 t209 1).f1).toList = ([120, 32, 121] : List UInt8)
   ·rw [if_pos c6] at H
    have c6b0 : (((rd_T39 t209 1).f1).toList == ([120, 32, 121] : List UInt8)) = true := beq_iff_eq.mpr c6
    have c6b1 : (((rd_T39 t209 1).f1).toList != ([120, 32, 121] : List UInt8)) = false := bne_eq_false_iff_eq.mpr c6
    clear c6
    by_cases c7 : 2 < (t209.length : Int)
    ·rw [if_pos c7] at H
     have c7b0 := decide_eq_true c7
     have c7b1 : decide (2 < t209.length) = true := decide_eq_true (by omega)
     clear c7
     by_cases c8 : ((rd_T39 t209 2).f0).toList = ([99] : List UInt8)
     ·rw [if_pos c8] at H
      have c8b0 : (((rd_T39 t209 2).f0).toList == ([99] : List UInt8)) = true := beq_iff_eq.mpr c8
      have c8b1 : (((rd_T39 t209 2).f0).toList != ([99] : List UInt8)) = false := bne_eq_false_iff_eq.mpr c8
      clear c8
      by_cases c9 : ((rd_T39 t209 2).f1).toList = ([] : List UInt8)
      ·rw [if_pos c9] at H
       have c9b0 : (((rd_T39 t209 2).f1).toList == ([] : List UInt8)) = true := beq_iff_eq.mpr c9
       have c9b1 : (((rd_T39 t209 2).f1).toList != ([] : List UInt8)) = false := bne_eq_false_iff_eq.mpr c9
       clear c9
       by_cases c10 : 3 < (t209.length : Int)
       ·rw [if_pos c10] at H
        have c10b0 := decide_eq_true c10
        have c10b1 : decide (3 < t209.length) = true := decide_eq_true (by omega)
        clear c10
        by_cases c11 : ((rd_T39 t209 3).f1).toList = ([51] : List UInt8)
        ·rw [if_pos c11] at H
         have c11b0 : (((rd_T39 t209 3).f1).toList == ([51] : List UInt8)) = true := beq_iff_eq.mpr c11
         have c11b1 : (((rd_T39 t209 3).f1).toList != ([51] : List UInt8)) = false := bne_eq_false_iff_eq.mpr c11
         clear c11
         by_cases c12 : 4 < (t209.length : Int)
         ·rw [if_pos c12] at H
          have c12b0 := decide_eq_true c12
          have c12b1 : decide (4 < t209.length) = true := decide_eq_true (by omega)
          clear c12
          by_cases c13 : ((rd_T39 t209 4).f0).toList = ([122] : List UInt8)
          ·rw [if_pos c13] at H
           have c13b0 : (((rd_T39 t209 4).f0).toList == ([122] : List UInt8)) = true := beq_iff_eq.mpr c13
           have c13b1 : (((rd_T39 t209 4).f0).toList != ([122] : List UInt8)) = false := bne_eq_false_iff_eq.mpr c13
           clear c13
           by_cases c14 : 5 < (t209.length : Int)
           ·rw [if_pos c14] at H
            have c14b0 := decide_eq_true c14
            have c14b1 : decide (5 < t209.length) = true := decide_eq_true (by omega)
            clear c14
            by_cases c15 : ((rd_T39 t209 5).f0).toList = ([113] : List UInt8)
            ·rw [if_pos c15] at H
             have c15b0 : (((rd_T39 t209 5).f0).toList == ([113] : List UInt8)) = true := beq_iff_eq.mpr c15
             have c15b1 : (((rd_T39 t209 5).f0).toList != ([113] : List UInt8)) = false := bne_eq_false_iff_eq.mpr c15
             clear c15
             by_cases c16 : 6 < (t209.length : Int)
             ·rw [if_pos c16] at H
              have c16b0 := decide_eq_true c16
              have c16b1 : decide (6 < t209.length) = true := decide_eq_true (by omega)
              clear c16
              by_cases c17 : ((rd_T39 t209 6).f1).toList = ([34, 117, 110] : List UInt8)
              ·rw [if_pos c17] at H
               have c17b0 : (((rd_T39 t209 6).f1).toList == ([34, 117, 110] : List UInt8)) = true := beq_iff_eq.mpr c17
               have c17b1 : (((rd_T39 t209 6).f1).toList != ([34, 117, 110] : List UInt8)) = false := bne_eq_false_iff_eq.mpr c17
               clear c17
               by_cases c18 : (t212.length : Int) = 2
               ·rw [if_pos c18] at H
                have c18b0 : ((t212.length : Int) == 2) = true := beq_iff_eq.mpr c18
                have c18b1 : ((t212.length : Int) != 2) = false := bne_eq_false_iff_eq.mpr c18
                clear c18
                by_cases c19 : t215.toList = ([49] : List UInt8)
                ·rw [if_pos c19] at H
                 have c19b0 : (t215.toList == ([49] : List UInt8)) = true := beq_iff_eq.mpr c19
                 have c19b1 : (t215.toList != ([49] : List UInt8)) = false := bne_eq_false_iff_eq.mpr c19
                 clear c19
                 by_cases c20 : t216 = true
                 ·subst c20
                  have H1 : (if 0 < (t209.length : Int) then ((logfmt_Put.f k (([(⟨(rd_T39 t209 0).f0, (rd_T39 t209 0).f1⟩ : S39), (⟨(rd_T39 t209 1).f0, (rd_T39 t209 1).f1⟩ : S39)] : List (S39)))).bind fun t229 => (some (t229.toList == ([97, 61, 34, 49, 34, 32, 98, 61, 34, 120, 32, 121, 34] : List UInt8)))) else (none)) = some r := by rw [if_pos rfl] at H; exact H
                  clear H
                  have H := H1
                  clear H1
                  by_cases c21 : 0 < (t209.length : Int)
                  ·rw [if_pos c21] at H
                   have c21b0 := decide_eq_true c21
                   have c21b1 : decide (0 < t209.length) = true := decide_eq_true (by omega)
                   clear c21
                   obtain ⟨y226, hy226⟩ : ∃ y_ : List (S39), y_ = (([(⟨(rd_T39 t209 0).f0, (rd_T39 t209 0).f1⟩ : S39), (⟨(rd_T39 t209 1).f0, (rd_T39 t209 1).f1⟩ : S39)] : List (S39))) := ⟨_, rfl⟩
                   replace H : ((logfmt_Put.f k y226).bind fun t229 => (some (t229.toList == ([97, 61, 34, 49, 34, 32, 98, 61, 34, 120, 32, 121, 34] : List UInt8)))) = some r := by first | (rw [hy226]; with_reducible exact H) | (have H2_ := (Option.bind_some _ _).symm.trans H; rw [hy226]; with_reducible exact H2_) | (have H2_ := (Option.bind_some _ _).symm.trans H; with_reducible exact H2_) | with_reducible exact H | (rw [hy226]; exact H) | exact H
                   have Ny226 := Aside0.mk hy226
                   clear hy226
                   replace H := Option.bind_eq_some_iff.mp H
                   obtain ⟨t229, A220, H⟩ := H
                   replace H : (some (t229.toList == ([97, 61, 34, 49, 34, 32, 98, 61, 34, 120, 32, 121, 34] : List UInt8))) = some r := H
                   have A22 := Aside0.mk A220
                   clear A220
                   obtain rfl := Option.some.inj H
                   go_enter Try.func8, Try.ntmps8
                   try go_wp2_with (first | ((with_reducible refine gate_callee (f := 12) rfl ?_); refine goesL_ (some 5) rfl rfl Try.func12 (by kernel_rfl) rfl #[.string (⟨#[97, 61, 49, 32, 98, 61, 34, 120, 32, 121, 34, 32, 99, 32, 57, 61, 50, 32, 97, 61, 51, 32, 61, 122, 32, 34, 113, 34, 32, 100, 61, 34, 117, 110]⟩ : ByteArray)] rfl ml ?_; (with_reducible refine (logfmt_All.calls k (⟨#[97, 61, 49, 32, 98, 61, 34, 120, 32, 121, 34, 32, 99, 32, 57, 61, 50, 32, 97, 61, 51, 32, 61, 122, 32, 34, 113, 34, 32, 100, 61, 34, 117, 110]⟩ : ByteArray) t209 _ A1.out).mono ?_); rintro e w23 ⟨v210, rfl, ho0, hb⟩; refine ⟨_, rfl, ?_⟩; have n0_ := Aside0.mk (Kd.R_lower ho0 (below_size bl)); have n1_ := Aside0.mk (below_step bl hb); clear HB; have HO211 := n0_; have HB := n1_; clear n0_ n1_; (try clear hb); (try clear hb2); (try clear hk); (try clear hi); (try clear ho0)) | ((with_reducible refine gate_callee (f := 14) rfl ?_); refine goesL_ (some 6) rfl rfl Try.func14 (by kernel_rfl) rfl #[.string (⟨#[97, 61, 49, 32, 97, 61, 50, 32, 98, 61, 51]⟩ : ByteArray)] rfl ml ?_; (with_reducible refine (logfmt_Of.calls k (⟨#[97, 61, 49, 32, 97, 61, 50, 32, 98, 61, 51]⟩ : ByteArray) t212 _ A2.out).mono ?_); rintro e w24 ⟨v213, rfl, ho0, hb⟩; refine ⟨_, rfl, ?_⟩; have n0_ := Aside0.mk (Kd.R_elder' (rz HO211.out) (Kd.R_base ho0) hb); have n1_ := Aside0.mk (Kd.R_lower (Kd.R_new' ho0 (Kd.R_lt (rz HO211.out))) (below_size bl)); have n2_ := Aside0.mk (below_step bl hb); clear HO211; clear HB; have HO211 := n0_; have HO214 := n1_; have HB := n2_; clear n0_ n1_ n2_; (try clear hb); (try clear hb2); (try clear hk); (try clear hi); (try clear ho0); obtain ⟨Ao25, co25, eo25⟩ := Kd.R_slice HO214.out; subst eo25) | ((with_reducible refine gate_callee (f := 20) rfl ?_); refine goesL_ (some 9) rfl rfl Try.func20 (by kernel_rfl) rfl #[.slice Ao25 t212.length co25, .string (⟨#[97]⟩ : ByteArray)] rfl ml ?_; (with_reducible refine (label_Set_Get.calls k _ _ t212 (⟨#[97]⟩ : ByteArray) t215 true _ ?side1 ?side2 A3.out).mono ?_); (case side1 => exact cz (Kd.R_reads' HO214.out).2.2); (case side2 => exact (Kd.R_reads' HO214.out).2.1); rintro e w26 ⟨rfl, hb⟩; refine ⟨_, rfl, ?_⟩; have n0_ := Aside0.mk (Kd.R_below (rz HO211.out) hb); have n1_ := Aside0.mk (Kd.R_below (rz HO214.out) hb); have n2_ := Aside0.mk (below_step bl hb); clear HO211; clear HO214; clear HB; have HO211 := n0_; have HO214 := n1_; have HB := n2_; clear n0_ n1_ n2_; (try clear hb); (try clear hb2); (try clear hk); (try clear hi)))
                   have n0_ := Aside0.mk (Kd.R_drew HO211.out)
                   have n1_ := Aside0.mk (Kd.R_drew HO214.out)
                   have n2_ := Aside0.mk (below_drew1 HB.out)
                   clear HO211
                   clear HO214
                   clear HB
                   have HO211 := n0_
                   have HO214 := n1_
                   have HB := n2_
                   clear n0_ n1_ n2_
                   obtain ⟨Ao28, co28, eo28⟩ := Kd.R_slice HO211.out
                   (first | subst eo28 | (injection eo28 with f1_ f2_ f3_; have f4_ := f1_.symm; have f5_ := f3_.symm; clear f1_ f2_ f3_; subst f4_; subst f5_))
                   have p217 : 0 ≤ (1 : Int) := (by omega)
                   have q217 : 1 < (t209.length : Int) := od
                   obtain ⟨ad217, e217, hx217_0, hx217_1⟩ := at_T39 (Kd.R_reads' HO211.out).2.2 1 p217 q217
                   cases e217
                   (try simp only [show (1 : Int).toNat = 1 from rfl, Nat.reduceMul, Nat.reduceEqDiff, Go.Addr.add, ↓reduceIte] at hx217_0)
                   (try simp only [show (1 : Int).toNat = 1 from rfl, Nat.reduceMul, Nat.reduceEqDiff, Go.Addr.add, ↓reduceIte] at hx217_1)
                   have qi217 : (1 < t209.length) = True := eq_true (by omega)
                   (try rw [show ((1 : Int)).toNat = 1 from rfl] at hx217_0)
                   (try rw [show 1 * 2 = 2 from rfl] at hx217_0)
                   (try rw [show ((1 : Int)).toNat = 1 from rfl] at hx217_1)
                   (try rw [show 1 * 2 = 2 from rfl] at hx217_1)
                   replace p217 := eq_true p217
                   replace q217 := eq_true q217
                   have p218 : 0 ≤ (2 : Int) := (by omega)
                   have q218 : 2 < (t209.length : Int) := od
                   obtain ⟨ad218, e218, hx218_0, hx218_1⟩ := at_T39 (Kd.R_reads' HO211.out).2.2 2 p218 q218
                   obtain rfl : ad217 = ad218 := (by injection e218)
                   (try simp only [show (2 : Int).toNat = 2 from rfl, Nat.reduceMul, Nat.reduceEqDiff, Go.Addr.add, ↓reduceIte] at hx218_0)
                   (try simp only [show (2 : Int).toNat = 2 from rfl, Nat.reduceMul, Nat.reduceEqDiff, Go.Addr.add, ↓reduceIte] at hx218_1)
                   have qi218 : (2 < t209.length) = True := eq_true (by omega)
                   (try rw [show ((2 : Int)).toNat = 2 from rfl] at hx218_0)
                   (try rw [show 2 * 2 = 4 from rfl] at hx218_0)
                   (try rw [show ((2 : Int)).toNat = 2 from rfl] at hx218_1)
                   (try rw [show 2 * 2 = 4 from rfl] at hx218_1)
                   replace p218 := eq_true p218
                   replace q218 := eq_true q218
                   have p219 : 0 ≤ (2 : Int) := (by omega)
                   have q219 : 2 < (t209.length : Int) := od
                   obtain ⟨ad219, e219, hx219_0, hx219_1⟩ := at_T39 (Kd.R_reads' HO211.out).2.2 2 p219 q219
                   obtain rfl : ad217 = ad219 := (by injection e219)
                   (try simp only [show (2 : Int).toNat = 2 from rfl, Nat.reduceMul, Nat.reduceEqDiff, Go.Addr.add, ↓reduceIte] at hx219_0)
                   (try simp only [show (2 : Int).toNat = 2 from rfl, Nat.reduceMul, Nat.reduceEqDiff, Go.Addr.add, ↓reduceIte] at hx219_1)
                   have qi219 : (2 < t209.length) = True := eq_true (by omega)
                   (try rw [show ((2 : Int)).toNat = 2 from rfl] at hx219_0)
                   (try rw [show 2 * 2 = 4 from rfl] at hx219_0)
                   (try rw [show ((2 : Int)).toNat = 2 from rfl] at hx219_1)
                   (try rw [show 2 * 2 = 4 from rfl] at hx219_1)
                   replace p219 := eq_true p219
                   replace q219 := eq_true q219
                   have p220 : 0 ≤ (3 : Int) := (by omega)
                   have q220 : 3 < (t209.length : Int) := od
                   obtain ⟨ad220, e220, hx220_0, hx220_1⟩ := at_T39 (Kd.R_reads' HO211.out).2.2 3 p220 q220
                   obtain rfl : ad217 = ad220 := (by injection e220)
                   (try simp only [show (3 : Int).toNat = 3 from rfl, Nat.reduceMul, Nat.reduceEqDiff, Go.Addr.add, ↓reduceIte] at hx220_0)
                   (try simp only [show (3 : Int).toNat = 3 from rfl, Nat.reduceMul, Nat.reduceEqDiff, Go.Addr.add, ↓reduceIte] at hx220_1)
                   have qi220 : (3 < t209.length) = True := eq_true (by omega)
                   (try rw [show ((3 : Int)).toNat = 3 from rfl] at hx220_0)
                   (try rw [show 3 * 2 = 6 from rfl] at hx220_0)
                   (try rw [show ((3 : Int)).toNat = 3 from rfl] at hx220_1)
                   (try rw [show 3 * 2 = 6 from rfl] at hx220_1)
                   replace p220 := eq_true p220
                   replace q220 := eq_true q220
                   have p221 : 0 ≤ (4 : Int) := (by omega)
                   have q221 : 4 < (t209.length : Int) := od
                   obtain ⟨ad221, e221, hx221_0, hx221_1⟩ := at_T39 (Kd.R_reads' HO211.out).2.2 4 p221 q221
                   obtain rfl : ad217 = ad221 := (by injection e221)
                   (try simp only [show (4 : Int).toNat = 4 from rfl, Nat.reduceMul, Nat.reduceEqDiff, Go.Addr.add, ↓reduceIte] at hx221_0)
                   (try simp only [show (4 : Int).toNat = 4 from rfl, Nat.reduceMul, Nat.reduceEqDiff, Go.Addr.add, ↓reduceIte] at hx221_1)
                   have qi221 : (4 < t209.length) = True := eq_true (by omega)
                   (try rw [show ((4 : Int)).toNat = 4 from rfl] at hx221_0)
                   (try rw [show 4 * 2 = 8 from rfl] at hx221_0)
                   (try rw [show ((4 : Int)).toNat = 4 from rfl] at hx221_1)
                   (try rw [show 4 * 2 = 8 from rfl] at hx221_1)
                   replace p221 := eq_true p221
                   replace q221 := eq_true q221
                   have p222 : 0 ≤ (5 : Int) := (by omega)
                   have q222 : 5 < (t209.length : Int) := od
                   obtain ⟨ad222, e222, hx222_0, hx222_1⟩ := at_T39 (Kd.R_reads' HO211.out).2.2 5 p222 q222
                   obtain rfl : ad217 = ad222 := (by injection e222)
                   (try simp only [show (5 : Int).toNat = 5 from rfl, Nat.reduceMul, Nat.reduceEqDiff, Go.Addr.add, ↓reduceIte] at hx222_0)
                   (try simp only [show (5 : Int).toNat = 5 from rfl, Nat.reduceMul, Nat.reduceEqDiff, Go.Addr.add, ↓reduceIte] at hx222_1)
                   have qi222 : (5 < t209.length) = True := eq_true (by omega)
                   (try rw [show ((5 : Int)).toNat = 5 from rfl] at hx222_0)
                   (try rw [show 5 * 2 = 10 from rfl] at hx222_0)
                   (try rw [show ((5 : Int)).toNat = 5 from rfl] at hx222_1)
                   (try rw [show 5 * 2 = 10 from rfl] at hx222_1)
                   replace p222 := eq_true p222
                   replace q222 := eq_true q222
                   have p223 : 0 ≤ (6 : Int) := (by omega)
                   have q223 : 6 < (t209.length : Int) := od
                   obtain ⟨ad223, e223, hx223_0, hx223_1⟩ := at_T39 (Kd.R_reads' HO211.out).2.2 6 p223 q223
                   obtain rfl : ad217 = ad223 := (by injection e223)
                   (try simp only [show (6 : Int).toNat = 6 from rfl, Nat.reduceMul, Nat.reduceEqDiff, Go.Addr.add, ↓reduceIte] at hx223_0)
                   (try simp only [show (6 : Int).toNat = 6 from rfl, Nat.reduceMul, Nat.reduceEqDiff, Go.Addr.add, ↓reduceIte] at hx223_1)
                   have qi223 : (6 < t209.length) = True := eq_true (by omega)
                   (try rw [show ((6 : Int)).toNat = 6 from rfl] at hx223_0)
                   (try rw [show 6 * 2 = 12 from rfl] at hx223_0)
                   (try rw [show ((6 : Int)).toNat = 6 from rfl] at hx223_1)
                   (try rw [show 6 * 2 = 12 from rfl] at hx223_1)
                   replace p223 := eq_true p223
                   replace q223 := eq_true q223
                   have p224 : 0 ≤ (0 : Int) := (by omega)
                   have q224 : 0 < (t209.length : Int) := od
                   obtain ⟨ad224, e224, hx224_0, hx224_1⟩ := at_T39 (Kd.R_reads' HO211.out).2.2 0 p224 q224
                   obtain rfl : ad217 = ad224 := (by injection e224)
                   have qi224 : (0 < t209.length) = True := eq_true (by omega)
                   (try rw [show ((0 : Int)).toNat = 0 from rfl] at hx224_0)
                   (try rw [show 0 * 2 = 0 from rfl] at hx224_0)
                   (try rw [Addr.add_zero'] at hx224_0)
                   (try rw [show ((0 : Int)).toNat = 0 from rfl] at hx224_1)
                   (try rw [show 0 * 2 = 0 from rfl] at hx224_1)
                   (try rw [Addr.add_zero'] at hx224_1)
                   replace p224 := eq_true p224
                   replace q224 := eq_true q224
                   have p225 : 0 ≤ (1 : Int) := (by omega)
                   have q225 : 1 < (t209.length : Int) := od
                   obtain ⟨ad225, e225, hx225_0, hx225_1⟩ := at_T39 (Kd.R_reads' HO211.out).2.2 1 p225 q225
                   obtain rfl : ad217 = ad225 := (by injection e225)
                   (try simp only [show (1 : Int).toNat = 1 from rfl, Nat.reduceMul, Nat.reduceEqDiff, Go.Addr.add, ↓reduceIte] at hx225_0)
                   (try simp only [show (1 : Int).toNat = 1 from rfl, Nat.reduceMul, Nat.reduceEqDiff, Go.Addr.add, ↓reduceIte] at hx225_1)
                   have qi225 : (1 < t209.length) = True := eq_true (by omega)
                   (try rw [show ((1 : Int)).toNat = 1 from rfl] at hx225_0)
                   (try rw [show 1 * 2 = 2 from rfl] at hx225_0)
                   (try rw [show ((1 : Int)).toNat = 1 from rfl] at hx225_1)
                   (try rw [show 1 * 2 = 2 from rfl] at hx225_1)
                   replace p225 := eq_true p225
                   replace q225 := eq_true q225
                   refine start_ (n := 76) (S := fun w' => w'.cell? ⟨ad217.block, ad217.off + 2, none⟩ = some (.string ((rd_T39 t209 1).f0)) ∧ w'.cell? ⟨ad217.block, ad217.off + 2 + 1, none⟩ = some (.string ((rd_T39 t209 1).f1)) ∧ w'.cell? ⟨ad217.block, ad217.off + 4, none⟩ = some (.string ((rd_T39 t209 2).f0)) ∧ w'.cell? ⟨ad217.block, ad217.off + 4 + 1, none⟩ = some (.string ((rd_T39 t209 2).f1)) ∧ w'.cell? ⟨ad217.block, ad217.off + 4, none⟩ = some (.string ((rd_T39 t209 2).f0)) ∧ w'.cell? ⟨ad217.block, ad217.off + 4 + 1, none⟩ = some (.string ((rd_T39 t209 2).f1)) ∧ w'.cell? ⟨ad217.block, ad217.off + 6, none⟩ = some (.string ((rd_T39 t209 3).f0)) ∧ w'.cell? ⟨ad217.block, ad217.off + 6 + 1, none⟩ = some (.string ((rd_T39 t209 3).f1)) ∧ w'.cell? ⟨ad217.block, ad217.off + 8, none⟩ = some (.string ((rd_T39 t209 4).f0)) ∧ w'.cell? ⟨ad217.block, ad217.off + 8 + 1, none⟩ = some (.string ((rd_T39 t209 4).f1)) ∧ w'.cell? ⟨ad217.block, ad217.off + 10, none⟩ = some (.string ((rd_T39 t209 5).f0)) ∧ w'.cell? ⟨ad217.block, ad217.off + 10 + 1, none⟩ = some (.string ((rd_T39 t209 5).f1)) ∧ w'.cell? ⟨ad217.block, ad217.off + 12, none⟩ = some (.string ((rd_T39 t209 6).f0)) ∧ w'.cell? ⟨ad217.block, ad217.off + 12 + 1, none⟩ = some (.string ((rd_T39 t209 6).f1)) ∧ w'.cell? ad217 = some (.string ((rd_T39 t209 0).f0)) ∧ w'.cell? ⟨ad217.block, ad217.off + 1, none⟩ = some (.string ((rd_T39 t209 0).f1)) ∧ w'.cell? ⟨ad217.block, ad217.off + 2, none⟩ = some (.string ((rd_T39 t209 1).f0)) ∧ w'.cell? ⟨ad217.block, ad217.off + 2 + 1, none⟩ = some (.string ((rd_T39 t209 1).f1))) (ds := []) #[N_,N_,N_,N_,N_,N_,N_,N_,N_,N_,N_,N_,N_,N_,N_,N_,N_,N_,N_,N_,N_,N_,N_,N_,N_,N_,N_,N_,N_,N_,N_,N_,N_,N_,N_,N_,N_,N_,N_,N_,N_,N_,N_,N_,N_,N_,N_,N_,N_,N_,N_,N_,N_,N_,N_,N_,N_,N_,N_,N_,N_,N_,N_,N_,N_,N_,N_,N_,N_,N_,N_,N_,N_,N_,N_,N_] (by kernel_rfl) rfl rfl ⟨hx217_0, hx217_1, hx218_0, hx218_1, hx219_0, hx219_1, hx220_0, hx220_1, hx221_0, hx221_1, hx222_0, hx222_1, hx223_0, hx223_1, hx224_0, hx224_1, hx225_0, hx225_1⟩ (fun hHeld => ?_); refine with_tabW archivistlaw10_examples.tab4 archivistlaw10_examples.bits4 (fun HT_ HW_ => ?_)
                   generalize w26.drew = w27 at HO211 HO214 HB hx217_0 hx217_1 hx218_0 hx218_1 hx219_0 hx219_1 hx220_0 hx220_1 hx221_0 hx221_1 hx222_0 hx222_1 hx223_0 hx223_1 hx224_0 hx224_1 hx225_0 hx225_1 hHeld ⊢
                   refine pY 0 12 #[J_,N_,N_,N_,N_,N_,N_,N_,N_,N_,N_,N_,N_,N_,N_,N_,N_,N_,N_,N_,N_,N_,N_,N_,N_,N_,N_,N_,N_,N_,N_,N_,N_,N_,N_,N_,N_,N_,N_,N_,N_,N_,N_,N_,N_,N_,N_,N_,N_,N_,N_,N_,N_,N_,N_,N_,N_,N_,N_,N_,N_,N_,N_,N_,N_,N_,N_,N_,N_,N_,N_,N_,N_,N_,N_,N_] HT_.out ?_
                   refine pY 1 13 #[J_,J_,N_,N_,N_,N_,N_,N_,N_,N_,N_,N_,N_,N_,N_,N_,N_,N_,N_,N_,N_,N_,N_,N_,N_,N_,N_,N_,N_,N_,N_,N_,N_,N_,N_,N_,N_,N_,N_,N_,N_,N_,N_,N_,N_,N_,N_,N_,N_,N_,N_,N_,N_,N_,N_,N_,N_,N_,N_,N_,N_,N_,N_,N_,N_,N_,N_,N_,N_,N_,N_,N_,N_,N_,N_,N_] HT_.out ?_
                   refine pY 2 14 #[J_,J_,J_,N_,N_,N_,N_,N_,N_,N_,N_,N_,N_,N_,N_,N_,N_,N_,N_,N_,N_,N_,N_,N_,N_,N_,N_,N_,N_,N_,N_,N_,N_,N_,N_,N_,N_,N_,N_,N_,N_,N_,N_,N_,N_,N_,N_,N_,N_,N_,N_,N_,N_,N_,N_,N_,N_,N_,N_,N_,N_,N_,N_,N_,N_,N_,N_,N_,N_,N_,N_,N_,N_,N_,N_,N_] HT_.out ?_
                   refine pY 3 15 #[J_,J_,J_,J_,N_,N_,N_,N_,N_,N_,N_,N_,N_,N_,N_,N_,N_,N_,N_,N_,N_,N_,N_,N_,N_,N_,N_,N_,N_,N_,N_,N_,N_,N_,N_,N_,N_,N_,N_,N_,N_,N_,N_,N_,N_,N_,N_,N_,N_,N_,N_,N_,N_,N_,N_,N_,N_,N_,N_,N_,N_,N_,N_,N_,N_,N_,N_,N_,N_,N_,N_,N_,N_,N_,N_,N_] HT_.out ?_
                   refine pY 4 16 #[J_,J_,J_,J_,J_,N_,N_,N_,N_,N_,N_,N_,N_,N_,N_,N_,N_,N_,N_,N_,N_,N_,N_,N_,N_,N_,N_,N_,N_,N_,N_,N_,N_,N_,N_,N_,N_,N_,N_,N_,N_,N_,N_,N_,N_,N_,N_,N_,N_,N_,N_,N_,N_,N_,N_,N_,N_,N_,N_,N_,N_,N_,N_,N_,N_,N_,N_,N_,N_,N_,N_,N_,N_,N_,N_,N_] HT_.out ?_
                   refine pY 5 17 #[J_,J_,J_,J_,J_,J_,N_,N_,N_,N_,N_,N_,N_,N_,N_,N_,N_,N_,N_,N_,N_,N_,N_,N_,N_,N_,N_,N_,N_,N_,N_,N_,N_,N_,N_,N_,N_,N_,N_,N_,N_,N_,N_,N_,N_,N_,N_,N_,N_,N_,N_,N_,N_,N_,N_,N_,N_,N_,N_,N_,N_,N_,N_,N_,N_,N_,N_,N_,N_,N_,N_,N_,N_,N_,N_,N_] HT_.out ?_
                   refine pY 6 18 #[J_,J_,J_,J_,J_,J_,J_,N_,N_,N_,N_,N_,N_,N_,N_,N_,N_,N_,N_,N_,N_,N_,N_,N_,N_,N_,N_,N_,N_,N_,N_,N_,N_,N_,N_,N_,N_,N_,N_,N_,N_,N_,N_,N_,N_,N_,N_,N_,N_,N_,N_,N_,N_,N_,N_,N_,N_,N_,N_,N_,N_,N_,N_,N_,N_,N_,N_,N_,N_,N_,N_,N_,N_,N_,N_,N_] HT_.out ?_
                   refine take_ (i := 7) (N := some 19) (v := ?_) (a' := ?_) #[J_,J_,J_,J_,J_,J_,J_,J_,N_,N_,N_,N_,N_,N_,N_,N_,N_,N_,N_,N_,N_,N_,N_,N_,N_,N_,N_,N_,N_,N_,N_,N_,N_,N_,N_,N_,N_,N_,N_,N_,N_,N_,N_,N_,N_,N_,N_,N_,N_,N_,N_,N_,N_,N_,N_,N_,N_,N_,N_,N_,N_,N_,N_,N_,N_,N_,N_,N_,N_,N_,N_,N_,N_,N_,N_,N_] rfl rfl (take_ofW HT_.out HW_.out (by kernel_rfl)) (fun _ _ _ h => h) (Or.inl ⟨by rfl, ?_⟩) hHeld ?_ ?_
                   rotate_left
                   ·rintro w' ⟨s0, s1, s2, s3, s4, s5, s6, s7, s8, s9, s10, s11, s12, s13, s14, s15, s16, s17⟩
                    go_simp
                    with_reducible rfl
                   rotate_left
                   ·simp only [Act.put, List.setIfInBounds_toArray, List.set_cons_zero, List.set_cons_succ, i64_w, i32_w]
                    rfl
                   refine pY 8 20 #[J_,J_,J_,J_,J_,J_,J_,J_,J_,N_,N_,N_,N_,N_,N_,N_,N_,N_,N_,N_,N_,N_,N_,N_,N_,N_,N_,N_,N_,N_,N_,N_,N_,N_,N_,N_,N_,N_,N_,N_,N_,N_,N_,N_,N_,N_,N_,N_,N_,N_,N_,N_,N_,N_,N_,N_,N_,N_,N_,N_,N_,N_,N_,N_,N_,N_,N_,N_,N_,N_,N_,N_,N_,N_,N_,N_] HT_.out ?_
                   refine pY 9 21 #[J_,J_,J_,J_,J_,J_,J_,J_,J_,J_,N_,N_,N_,N_,N_,N_,N_,N_,N_,N_,N_,N_,N_,N_,N_,N_,N_,N_,N_,N_,N_,N_,N_,N_,N_,N_,N_,N_,N_,N_,N_,N_,N_,N_,N_,N_,N_,N_,N_,N_,N_,N_,N_,N_,N_,N_,N_,N_,N_,N_,N_,N_,N_,N_,N_,N_,N_,N_,N_,N_,N_,N_,N_,N_,N_,N_] HT_.out ?_
                   refine pY 10 22 #[J_,J_,J_,J_,J_,J_,J_,J_,J_,J_,J_,N_,N_,N_,N_,N_,N_,N_,N_,N_,N_,N_,N_,N_,N_,N_,N_,N_,N_,N_,N_,N_,N_,N_,N_,N_,N_,N_,N_,N_,N_,N_,N_,N_,N_,N_,N_,N_,N_,N_,N_,N_,N_,N_,N_,N_,N_,N_,N_,N_,N_,N_,N_,N_,N_,N_,N_,N_,N_,N_,N_,N_,N_,N_,N_,N_] HT_.out ?_
                   refine pY 11 23 #[J_,J_,J_,J_,J_,J_,J_,J_,J_,J_,J_,J_,N_,N_,N_,N_,N_,N_,N_,N_,N_,N_,N_,N_,N_,N_,N_,N_,N_,N_,N_,N_,N_,N_,N_,N_,N_,N_,N_,N_,N_,N_,N_,N_,N_,N_,N_,N_,N_,N_,N_,N_,N_,N_,N_,N_,N_,N_,N_,N_,N_,N_,N_,N_,N_,N_,N_,N_,N_,N_,N_,N_,N_,N_,N_,N_] HT_.out ?_
                   refine pY 12 24 #[J_,J_,J_,J_,J_,J_,J_,J_,J_,J_,J_,J_,J_,N_,N_,N_,N_,N_,N_,N_,N_,N_,N_,N_,N_,N_,N_,N_,N_,N_,N_,N_,N_,N_,N_,N_,N_,N_,N_,N_,N_,N_,N_,N_,N_,N_,N_,N_,N_,N_,N_,N_,N_,N_,N_,N_,N_,N_,N_,N_,N_,N_,N_,N_,N_,N_,N_,N_,N_,N_,N_,N_,N_,N_,N_,N_] HT_.out ?_
                   refine pY 13 25 #[J_,J_,J_,J_,J_,J_,J_,J_,J_,J_,J_,J_,J_,J_,N_,N_,N_,N_,N_,N_,N_,N_,N_,N_,N_,N_,N_,N_,N_,N_,N_,N_,N_,N_,N_,N_,N_,N_,N_,N_,N_,N_,N_,N_,N_,N_,N_,N_,N_,N_,N_,N_,N_,N_,N_,N_,N_,N_,N_,N_,N_,N_,N_,N_,N_,N_,N_,N_,N_,N_,N_,N_,N_,N_,N_,N_] HT_.out ?_
                   refine take_ (i := 14) (N := some 26) (v := ?_) (a' := ?_) #[J_,J_,J_,J_,J_,J_,J_,J_,J_,J_,J_,J_,J_,J_,J_,N_,N_,N_,N_,N_,N_,N_,N_,N_,N_,N_,N_,N_,N_,N_,N_,N_,N_,N_,N_,N_,N_,N_,N_,N_,N_,N_,N_,N_,N_,N_,N_,N_,N_,N_,N_,N_,N_,N_,N_,N_,N_,N_,N_,N_,N_,N_,N_,N_,N_,N_,N_,N_,N_,N_,N_,N_,N_,N_,N_,N_] rfl rfl (take_ofW HT_.out HW_.out (by kernel_rfl)) (fun _ _ _ h => h) (Or.inl ⟨by rfl, ?_⟩) hHeld ?_ ?_
                   rotate_left
                   ·rintro w' ⟨s0, s1, s2, s3, s4, s5, s6, s7, s8, s9, s10, s11, s12, s13, s14, s15, s16, s17⟩
                    go_simp
                    with_reducible rfl
                   rotate_left
                   ·simp only [Act.put, List.setIfInBounds_toArray, List.set_cons_zero, List.set_cons_succ, i64_w, i32_w]
                    rfl
                   refine pY 15 27 #[J_,J_,J_,J_,J_,J_,J_,J_,J_,J_,J_,J_,J_,J_,J_,J_,N_,N_,N_,N_,N_,N_,N_,N_,N_,N_,N_,N_,N_,N_,N_,N_,N_,N_,N_,N_,N_,N_,N_,N_,N_,N_,N_,N_,N_,N_,N_,N_,N_,N_,N_,N_,N_,N_,N_,N_,N_,N_,N_,N_,N_,N_,N_,N_,N_,N_,N_,N_,N_,N_,N_,N_,N_,N_,N_,N_] HT_.out ?_
                   refine pY 16 28 #[J_,J_,J_,J_,J_,J_,J_,J_,J_,J_,J_,J_,J_,J_,J_,J_,J_,N_,N_,N_,N_,N_,N_,N_,N_,N_,N_,N_,N_,N_,N_,N_,N_,N_,N_,N_,N_,N_,N_,N_,N_,N_,N_,N_,N_,N_,N_,N_,N_,N_,N_,N_,N_,N_,N_,N_,N_,N_,N_,N_,N_,N_,N_,N_,N_,N_,N_,N_,N_,N_,N_,N_,N_,N_,N_,N_] HT_.out ?_
                   refine pY 17 29 #[J_,J_,J_,J_,J_,J_,J_,J_,J_,J_,J_,J_,J_,J_,J_,J_,J_,J_,N_,N_,N_,N_,N_,N_,N_,N_,N_,N_,N_,N_,N_,N_,N_,N_,N_,N_,N_,N_,N_,N_,N_,N_,N_,N_,N_,N_,N_,N_,N_,N_,N_,N_,N_,N_,N_,N_,N_,N_,N_,N_,N_,N_,N_,N_,N_,N_,N_,N_,N_,N_,N_,N_,N_,N_,N_,N_] HT_.out ?_
                   refine pY 18 30 #[J_,J_,J_,J_,J_,J_,J_,J_,J_,J_,J_,J_,J_,J_,J_,J_,J_,J_,J_,N_,N_,N_,N_,N_,N_,N_,N_,N_,N_,N_,N_,N_,N_,N_,N_,N_,N_,N_,N_,N_,N_,N_,N_,N_,N_,N_,N_,N_,N_,N_,N_,N_,N_,N_,N_,N_,N_,N_,N_,N_,N_,N_,N_,N_,N_,N_,N_,N_,N_,N_,N_,N_,N_,N_,N_,N_] HT_.out ?_
                   refine pY 19 31 #[J_,J_,J_,J_,J_,J_,J_,J_,J_,J_,J_,J_,J_,J_,J_,J_,J_,J_,J_,J_,N_,N_,N_,N_,N_,N_,N_,N_,N_,N_,N_,N_,N_,N_,N_,N_,N_,N_,N_,N_,N_,N_,N_,N_,N_,N_,N_,N_,N_,N_,N_,N_,N_,N_,N_,N_,N_,N_,N_,N_,N_,N_,N_,N_,N_,N_,N_,N_,N_,N_,N_,N_,N_,N_,N_,N_] HT_.out ?_
                   refine pY 20 32 #[J_,J_,J_,J_,J_,J_,J_,J_,J_,J_,J_,J_,J_,J_,J_,J_,J_,J_,J_,J_,J_,N_,N_,N_,N_,N_,N_,N_,N_,N_,N_,N_,N_,N_,N_,N_,N_,N_,N_,N_,N_,N_,N_,N_,N_,N_,N_,N_,N_,N_,N_,N_,N_,N_,N_,N_,N_,N_,N_,N_,N_,N_,N_,N_,N_,N_,N_,N_,N_,N_,N_,N_,N_,N_,N_,N_] HT_.out ?_
                   refine take_ (i := 21) (N := some 33) (v := ?_) (a' := ?_) #[J_,J_,J_,J_,J_,J_,J_,J_,J_,J_,J_,J_,J_,J_,J_,J_,J_,J_,J_,J_,J_,J_,N_,N_,N_,N_,N_,N_,N_,N_,N_,N_,N_,N_,N_,N_,N_,N_,N_,N_,N_,N_,N_,N_,N_,N_,N_,N_,N_,N_,N_,N_,N_,N_,N_,N_,N_,N_,N_,N_,N_,N_,N_,N_,N_,N_,N_,N_,N_,N_,N_,N_,N_,N_,N_,N_] rfl rfl (take_ofW HT_.out HW_.out (by kernel_rfl)) (fun _ _ _ h => h) (Or.inl ⟨by rfl, ?_⟩) hHeld ?_ ?_
                   rotate_left
                   ·rintro w' ⟨s0, s1, s2, s3, s4, s5, s6, s7, s8, s9, s10, s11, s12, s13, s14, s15, s16, s17⟩
                    go_simp
                    with_reducible rfl
                   rotate_left
                   ·simp only [Act.put, List.setIfInBounds_toArray, List.set_cons_zero, List.set_cons_succ, i64_w, i32_w]
                    rfl
                   refine pY 22 34 #[J_,J_,J_,J_,J_,J_,J_,J_,J_,J_,J_,J_,J_,J_,J_,J_,J_,J_,J_,J_,J_,J_,J_,N_,N_,N_,N_,N_,N_,N_,N_,N_,N_,N_,N_,N_,N_,N_,N_,N_,N_,N_,N_,N_,N_,N_,N_,N_,N_,N_,N_,N_,N_,N_,N_,N_,N_,N_,N_,N_,N_,N_,N_,N_,N_,N_,N_,N_,N_,N_,N_,N_,N_,N_,N_,N_] HT_.out ?_
                   refine pY 23 35 #[J_,J_,J_,J_,J_,J_,J_,J_,J_,J_,J_,J_,J_,J_,J_,J_,J_,J_,J_,J_,J_,J_,J_,J_,N_,N_,N_,N_,N_,N_,N_,N_,N_,N_,N_,N_,N_,N_,N_,N_,N_,N_,N_,N_,N_,N_,N_,N_,N_,N_,N_,N_,N_,N_,N_,N_,N_,N_,N_,N_,N_,N_,N_,N_,N_,N_,N_,N_,N_,N_,N_,N_,N_,N_,N_,N_] HT_.out ?_
                   refine pY 24 36 #[J_,J_,J_,J_,J_,J_,J_,J_,J_,J_,J_,J_,J_,J_,J_,J_,J_,J_,J_,J_,J_,J_,J_,J_,J_,N_,N_,N_,N_,N_,N_,N_,N_,N_,N_,N_,N_,N_,N_,N_,N_,N_,N_,N_,N_,N_,N_,N_,N_,N_,N_,N_,N_,N_,N_,N_,N_,N_,N_,N_,N_,N_,N_,N_,N_,N_,N_,N_,N_,N_,N_,N_,N_,N_,N_,N_] HT_.out ?_
                   refine pY 25 37 #[J_,J_,J_,J_,J_,J_,J_,J_,J_,J_,J_,J_,J_,J_,J_,J_,J_,J_,J_,J_,J_,J_,J_,J_,J_,J_,N_,N_,N_,N_,N_,N_,N_,N_,N_,N_,N_,N_,N_,N_,N_,N_,N_,N_,N_,N_,N_,N_,N_,N_,N_,N_,N_,N_,N_,N_,N_,N_,N_,N_,N_,N_,N_,N_,N_,N_,N_,N_,N_,N_,N_,N_,N_,N_,N_,N_] HT_.out ?_
                   refine pY 26 38 #[J_,J_,J_,J_,J_,J_,J_,J_,J_,J_,J_,J_,J_,J_,J_,J_,J_,J_,J_,J_,J_,J_,J_,J_,J_,J_,J_,N_,N_,N_,N_,N_,N_,N_,N_,N_,N_,N_,N_,N_,N_,N_,N_,N_,N_,N_,N_,N_,N_,N_,N_,N_,N_,N_,N_,N_,N_,N_,N_,N_,N_,N_,N_,N_,N_,N_,N_,N_,N_,N_,N_,N_,N_,N_,N_,N_] HT_.out ?_
                   refine pY 27 39 #[J_,J_,J_,J_,J_,J_,J_,J_,J_,J_,J_,J_,J_,J_,J_,J_,J_,J_,J_,J_,J_,J_,J_,J_,J_,J_,J_,J_,N_,N_,N_,N_,N_,N_,N_,N_,N_,N_,N_,N_,N_,N_,N_,N_,N_,N_,N_,N_,N_,N_,N_,N_,N_,N_,N_,N_,N_,N_,N_,N_,N_,N_,N_,N_,N_,N_,N_,N_,N_,N_,N_,N_,N_,N_,N_,N_] HT_.out ?_
                   refine take_ (i := 28) (N := some 40) (v := ?_) (a' := ?_) #[J_,J_,J_,J_,J_,J_,J_,J_,J_,J_,J_,J_,J_,J_,J_,J_,J_,J_,J_,J_,J_,J_,J_,J_,J_,J_,J_,J_,J_,N_,N_,N_,N_,N_,N_,N_,N_,N_,N_,N_,N_,N_,N_,N_,N_,N_,N_,N_,N_,N_,N_,N_,N_,N_,N_,N_,N_,N_,N_,N_,N_,N_,N_,N_,N_,N_,N_,N_,N_,N_,N_,N_,N_,N_,N_,N_] rfl rfl (take_ofW HT_.out HW_.out (by kernel_rfl)) (fun _ _ _ h => h) (Or.inl ⟨by rfl, ?_⟩) hHeld ?_ ?_
                   rotate_left
                   ·rintro w' ⟨s0, s1, s2, s3, s4, s5, s6, s7, s8, s9, s10, s11, s12, s13, s14, s15, s16, s17⟩
                    go_simp
                    with_reducible rfl
                   rotate_left
                   ·simp only [Act.put, List.setIfInBounds_toArray, List.set_cons_zero, List.set_cons_succ, i64_w, i32_w]
                    rfl
                   refine pY 29 41 #[J_,J_,J_,J_,J_,J_,J_,J_,J_,J_,J_,J_,J_,J_,J_,J_,J_,J_,J_,J_,J_,J_,J_,J_,J_,J_,J_,J_,J_,J_,N_,N_,N_,N_,N_,N_,N_,N_,N_,N_,N_,N_,N_,N_,N_,N_,N_,N_,N_,N_,N_,N_,N_,N_,N_,N_,N_,N_,N_,N_,N_,N_,N_,N_,N_,N_,N_,N_,N_,N_,N_,N_,N_,N_,N_,N_] HT_.out ?_
                   refine pY 30 42 #[J_,J_,J_,J_,J_,J_,J_,J_,J_,J_,J_,J_,J_,J_,J_,J_,J_,J_,J_,J_,J_,J_,J_,J_,J_,J_,J_,J_,J_,J_,J_,N_,N_,N_,N_,N_,N_,N_,N_,N_,N_,N_,N_,N_,N_,N_,N_,N_,N_,N_,N_,N_,N_,N_,N_,N_,N_,N_,N_,N_,N_,N_,N_,N_,N_,N_,N_,N_,N_,N_,N_,N_,N_,N_,N_,N_] HT_.out ?_
                   refine pY 31 43 #[J_,J_,J_,J_,J_,J_,J_,J_,J_,J_,J_,J_,J_,J_,J_,J_,J_,J_,J_,J_,J_,J_,J_,J_,J_,J_,J_,J_,J_,J_,J_,J_,N_,N_,N_,N_,N_,N_,N_,N_,N_,N_,N_,N_,N_,N_,N_,N_,N_,N_,N_,N_,N_,N_,N_,N_,N_,N_,N_,N_,N_,N_,N_,N_,N_,N_,N_,N_,N_,N_,N_,N_,N_,N_,N_,N_] HT_.out ?_
                   refine pY 32 44 #[J_,J_,J_,J_,J_,J_,J_,J_,J_,J_,J_,J_,J_,J_,J_,J_,J_,J_,J_,J_,J_,J_,J_,J_,J_,J_,J_,J_,J_,J_,J_,J_,J_,N_,N_,N_,N_,N_,N_,N_,N_,N_,N_,N_,N_,N_,N_,N_,N_,N_,N_,N_,N_,N_,N_,N_,N_,N_,N_,N_,N_,N_,N_,N_,N_,N_,N_,N_,N_,N_,N_,N_,N_,N_,N_,N_] HT_.out ?_
                   refine pY 33 45 #[J_,J_,J_,J_,J_,J_,J_,J_,J_,J_,J_,J_,J_,J_,J_,J_,J_,J_,J_,J_,J_,J_,J_,J_,J_,J_,J_,J_,J_,J_,J_,J_,J_,J_,N_,N_,N_,N_,N_,N_,N_,N_,N_,N_,N_,N_,N_,N_,N_,N_,N_,N_,N_,N_,N_,N_,N_,N_,N_,N_,N_,N_,N_,N_,N_,N_,N_,N_,N_,N_,N_,N_,N_,N_,N_,N_] HT_.out ?_
                   refine pY 34 46 #[J_,J_,J_,J_,J_,J_,J_,J_,J_,J_,J_,J_,J_,J_,J_,J_,J_,J_,J_,J_,J_,J_,J_,J_,J_,J_,J_,J_,J_,J_,J_,J_,J_,J_,J_,N_,N_,N_,N_,N_,N_,N_,N_,N_,N_,N_,N_,N_,N_,N_,N_,N_,N_,N_,N_,N_,N_,N_,N_,N_,N_,N_,N_,N_,N_,N_,N_,N_,N_,N_,N_,N_,N_,N_,N_,N_] HT_.out ?_
                   refine take_ (i := 35) (N := some 47) (v := ?_) (a' := ?_) #[J_,J_,J_,J_,J_,J_,J_,J_,J_,J_,J_,J_,J_,J_,J_,J_,J_,J_,J_,J_,J_,J_,J_,J_,J_,J_,J_,J_,J_,J_,J_,J_,J_,J_,J_,J_,N_,N_,N_,N_,N_,N_,N_,N_,N_,N_,N_,N_,N_,N_,N_,N_,N_,N_,N_,N_,N_,N_,N_,N_,N_,N_,N_,N_,N_,N_,N_,N_,N_,N_,N_,N_,N_,N_,N_,N_] rfl rfl (take_ofW HT_.out HW_.out (by kernel_rfl)) (fun _ _ _ h => h) (Or.inl ⟨by rfl, ?_⟩) hHeld ?_ ?_
                   rotate_left
                   ·rintro w' ⟨s0, s1, s2, s3, s4, s5, s6, s7, s8, s9, s10, s11, s12, s13, s14, s15, s16, s17⟩
                    go_simp
                    with_reducible rfl
                   rotate_left
                   ·simp only [Act.put, List.setIfInBounds_toArray, List.set_cons_zero, List.set_cons_succ, i64_w, i32_w]
                    rfl
                   refine pY 36 48 #[J_,J_,J_,J_,J_,J_,J_,J_,J_,J_,J_,J_,J_,J_,J_,J_,J_,J_,J_,J_,J_,J_,J_,J_,J_,J_,J_,J_,J_,J_,J_,J_,J_,J_,J_,J_,J_,N_,N_,N_,N_,N_,N_,N_,N_,N_,N_,N_,N_,N_,N_,N_,N_,N_,N_,N_,N_,N_,N_,N_,N_,N_,N_,N_,N_,N_,N_,N_,N_,N_,N_,N_,N_,N_,N_,N_] HT_.out ?_
                   refine pY 37 49 #[J_,J_,J_,J_,J_,J_,J_,J_,J_,J_,J_,J_,J_,J_,J_,J_,J_,J_,J_,J_,J_,J_,J_,J_,J_,J_,J_,J_,J_,J_,J_,J_,J_,J_,J_,J_,J_,J_,N_,N_,N_,N_,N_,N_,N_,N_,N_,N_,N_,N_,N_,N_,N_,N_,N_,N_,N_,N_,N_,N_,N_,N_,N_,N_,N_,N_,N_,N_,N_,N_,N_,N_,N_,N_,N_,N_] HT_.out ?_
                   refine pY 38 50 #[J_,J_,J_,J_,J_,J_,J_,J_,J_,J_,J_,J_,J_,J_,J_,J_,J_,J_,J_,J_,J_,J_,J_,J_,J_,J_,J_,J_,J_,J_,J_,J_,J_,J_,J_,J_,J_,J_,J_,N_,N_,N_,N_,N_,N_,N_,N_,N_,N_,N_,N_,N_,N_,N_,N_,N_,N_,N_,N_,N_,N_,N_,N_,N_,N_,N_,N_,N_,N_,N_,N_,N_,N_,N_,N_,N_] HT_.out ?_
                   refine pY 39 51 #[J_,J_,J_,J_,J_,J_,J_,J_,J_,J_,J_,J_,J_,J_,J_,J_,J_,J_,J_,J_,J_,J_,J_,J_,J_,J_,J_,J_,J_,J_,J_,J_,J_,J_,J_,J_,J_,J_,J_,J_,N_,N_,N_,N_,N_,N_,N_,N_,N_,N_,N_,N_,N_,N_,N_,N_,N_,N_,N_,N_,N_,N_,N_,N_,N_,N_,N_,N_,N_,N_,N_,N_,N_,N_,N_,N_] HT_.out ?_
                   refine pY 40 52 #[J_,J_,J_,J_,J_,J_,J_,J_,J_,J_,J_,J_,J_,J_,J_,J_,J_,J_,J_,J_,J_,J_,J_,J_,J_,J_,J_,J_,J_,J_,J_,J_,J_,J_,J_,J_,J_,J_,J_,J_,J_,N_,N_,N_,N_,N_,N_,N_,N_,N_,N_,N_,N_,N_,N_,N_,N_,N_,N_,N_,N_,N_,N_,N_,N_,N_,N_,N_,N_,N_,N_,N_,N_,N_,N_,N_] HT_.out ?_
                   refine pY 41 53 #[J_,J_,J_,J_,J_,J_,J_,J_,J_,J_,J_,J_,J_,J_,J_,J_,J_,J_,J_,J_,J_,J_,J_,J_,J_,J_,J_,J_,J_,J_,J_,J_,J_,J_,J_,J_,J_,J_,J_,J_,J_,J_,N_,N_,N_,N_,N_,N_,N_,N_,N_,N_,N_,N_,N_,N_,N_,N_,N_,N_,N_,N_,N_,N_,N_,N_,N_,N_,N_,N_,N_,N_,N_,N_,N_,N_] HT_.out ?_
                   refine take_ (i := 42) (N := some 54) (v := ?_) (a' := ?_) #[J_,J_,J_,J_,J_,J_,J_,J_,J_,J_,J_,J_,J_,J_,J_,J_,J_,J_,J_,J_,J_,J_,J_,J_,J_,J_,J_,J_,J_,J_,J_,J_,J_,J_,J_,J_,J_,J_,J_,J_,J_,J_,J_,N_,N_,N_,N_,N_,N_,N_,N_,N_,N_,N_,N_,N_,N_,N_,N_,N_,N_,N_,N_,N_,N_,N_,N_,N_,N_,N_,N_,N_,N_,N_,N_,N_] rfl rfl (take_ofW HT_.out HW_.out (by kernel_rfl)) (fun _ _ _ h => h) (Or.inl ⟨by rfl, ?_⟩) hHeld ?_ ?_
                   rotate_left
                   ·rintro w' ⟨s0, s1, s2, s3, s4, s5, s6, s7, s8, s9, s10, s11, s12, s13, s14, s15, s16, s17⟩
                    go_simp
                    with_reducible rfl
                   rotate_left
                   ·simp only [Act.put, List.setIfInBounds_toArray, List.set_cons_zero, List.set_cons_succ, i64_w, i32_w]
                    rfl
                   refine pY 43 55 #[J_,J_,J_,J_,J_,J_,J_,J_,J_,J_,J_,J_,J_,J_,J_,J_,J_,J_,J_,J_,J_,J_,J_,J_,J_,J_,J_,J_,J_,J_,J_,J_,J_,J_,J_,J_,J_,J_,J_,J_,J_,J_,J_,J_,N_,N_,N_,N_,N_,N_,N_,N_,N_,N_,N_,N_,N_,N_,N_,N_,N_,N_,N_,N_,N_,N_,N_,N_,N_,N_,N_,N_,N_,N_,N_,N_] HT_.out ?_
                   refine pY 44 56 #[J_,J_,J_,J_,J_,J_,J_,J_,J_,J_,J_,J_,J_,J_,J_,J_,J_,J_,J_,J_,J_,J_,J_,J_,J_,J_,J_,J_,J_,J_,J_,J_,J_,J_,J_,J_,J_,J_,J_,J_,J_,J_,J_,J_,J_,N_,N_,N_,N_,N_,N_,N_,N_,N_,N_,N_,N_,N_,N_,N_,N_,N_,N_,N_,N_,N_,N_,N_,N_,N_,N_,N_,N_,N_,N_,N_] HT_.out ?_
                   refine pY 45 57 #[J_,J_,J_,J_,J_,J_,J_,J_,J_,J_,J_,J_,J_,J_,J_,J_,J_,J_,J_,J_,J_,J_,J_,J_,J_,J_,J_,J_,J_,J_,J_,J_,J_,J_,J_,J_,J_,J_,J_,J_,J_,J_,J_,J_,J_,J_,N_,N_,N_,N_,N_,N_,N_,N_,N_,N_,N_,N_,N_,N_,N_,N_,N_,N_,N_,N_,N_,N_,N_,N_,N_,N_,N_,N_,N_,N_] HT_.out ?_
                   refine pY 46 58 #[J_,J_,J_,J_,J_,J_,J_,J_,J_,J_,J_,J_,J_,J_,J_,J_,J_,J_,J_,J_,J_,J_,J_,J_,J_,J_,J_,J_,J_,J_,J_,J_,J_,J_,J_,J_,J_,J_,J_,J_,J_,J_,J_,J_,J_,J_,J_,N_,N_,N_,N_,N_,N_,N_,N_,N_,N_,N_,N_,N_,N_,N_,N_,N_,N_,N_,N_,N_,N_,N_,N_,N_,N_,N_,N_,N_] HT_.out ?_
                   refine pY 47 59 #[J_,J_,J_,J_,J_,J_,J_,J_,J_,J_,J_,J_,J_,J_,J_,J_,J_,J_,J_,J_,J_,J_,J_,J_,J_,J_,J_,J_,J_,J_,J_,J_,J_,J_,J_,J_,J_,J_,J_,J_,J_,J_,J_,J_,J_,J_,J_,J_,N_,N_,N_,N_,N_,N_,N_,N_,N_,N_,N_,N_,N_,N_,N_,N_,N_,N_,N_,N_,N_,N_,N_,N_,N_,N_,N_,N_] HT_.out ?_
                   refine pY 48 60 #[J_,J_,J_,J_,J_,J_,J_,J_,J_,J_,J_,J_,J_,J_,J_,J_,J_,J_,J_,J_,J_,J_,J_,J_,J_,J_,J_,J_,J_,J_,J_,J_,J_,J_,J_,J_,J_,J_,J_,J_,J_,J_,J_,J_,J_,J_,J_,J_,J_,N_,N_,N_,N_,N_,N_,N_,N_,N_,N_,N_,N_,N_,N_,N_,N_,N_,N_,N_,N_,N_,N_,N_,N_,N_,N_,N_] HT_.out ?_
                   refine take_ (i := 49) (N := some 61) (v := ?_) (a' := ?_) #[J_,J_,J_,J_,J_,J_,J_,J_,J_,J_,J_,J_,J_,J_,J_,J_,J_,J_,J_,J_,J_,J_,J_,J_,J_,J_,J_,J_,J_,J_,J_,J_,J_,J_,J_,J_,J_,J_,J_,J_,J_,J_,J_,J_,J_,J_,J_,J_,J_,J_,N_,N_,N_,N_,N_,N_,N_,N_,N_,N_,N_,N_,N_,N_,N_,N_,N_,N_,N_,N_,N_,N_,N_,N_,N_,N_] rfl rfl (take_ofW HT_.out HW_.out (by kernel_rfl)) (fun _ _ _ h => h) (Or.inl ⟨by rfl, ?_⟩) hHeld ?_ ?_
                   rotate_left
                   ·rintro w' ⟨s0, s1, s2, s3, s4, s5, s6, s7, s8, s9, s10, s11, s12, s13, s14, s15, s16, s17⟩
                    go_simp
                    with_reducible rfl
                   rotate_left
                   ·simp only [Act.put, List.setIfInBounds_toArray, List.set_cons_zero, List.set_cons_succ, i64_w, i32_w]
                    rfl
                   refine pY 50 62 #[J_,J_,J_,J_,J_,J_,J_,J_,J_,J_,J_,J_,J_,J_,J_,J_,J_,J_,J_,J_,J_,J_,J_,J_,J_,J_,J_,J_,J_,J_,J_,J_,J_,J_,J_,J_,J_,J_,J_,J_,J_,J_,J_,J_,J_,J_,J_,J_,J_,J_,J_,N_,N_,N_,N_,N_,N_,N_,N_,N_,N_,N_,N_,N_,N_,N_,N_,N_,N_,N_,N_,N_,N_,N_,N_,N_] HT_.out ?_
                   refine pY 51 63 #[J_,J_,J_,J_,J_,J_,J_,J_,J_,J_,J_,J_,J_,J_,J_,J_,J_,J_,J_,J_,J_,J_,J_,J_,J_,J_,J_,J_,J_,J_,J_,J_,J_,J_,J_,J_,J_,J_,J_,J_,J_,J_,J_,J_,J_,J_,J_,J_,J_,J_,J_,J_,N_,N_,N_,N_,N_,N_,N_,N_,N_,N_,N_,N_,N_,N_,N_,N_,N_,N_,N_,N_,N_,N_,N_,N_] HT_.out ?_
                   refine pY 52 64 #[J_,J_,J_,J_,J_,J_,J_,J_,J_,J_,J_,J_,J_,J_,J_,J_,J_,J_,J_,J_,J_,J_,J_,J_,J_,J_,J_,J_,J_,J_,J_,J_,J_,J_,J_,J_,J_,J_,J_,J_,J_,J_,J_,J_,J_,J_,J_,J_,J_,J_,J_,J_,J_,N_,N_,N_,N_,N_,N_,N_,N_,N_,N_,N_,N_,N_,N_,N_,N_,N_,N_,N_,N_,N_,N_,N_] HT_.out ?_
                   refine pY 53 65 #[J_,J_,J_,J_,J_,J_,J_,J_,J_,J_,J_,J_,J_,J_,J_,J_,J_,J_,J_,J_,J_,J_,J_,J_,J_,J_,J_,J_,J_,J_,J_,J_,J_,J_,J_,J_,J_,J_,J_,J_,J_,J_,J_,J_,J_,J_,J_,J_,J_,J_,J_,J_,J_,J_,N_,N_,N_,N_,N_,N_,N_,N_,N_,N_,N_,N_,N_,N_,N_,N_,N_,N_,N_,N_,N_,N_] HT_.out ?_
                   refine pY 54 66 #[J_,J_,J_,J_,J_,J_,J_,J_,J_,J_,J_,J_,J_,J_,J_,J_,J_,J_,J_,J_,J_,J_,J_,J_,J_,J_,J_,J_,J_,J_,J_,J_,J_,J_,J_,J_,J_,J_,J_,J_,J_,J_,J_,J_,J_,J_,J_,J_,J_,J_,J_,J_,J_,J_,J_,N_,N_,N_,N_,N_,N_,N_,N_,N_,N_,N_,N_,N_,N_,N_,N_,N_,N_,N_,N_,N_] HT_.out ?_
                   refine pY 55 67 #[J_,J_,J_,J_,J_,J_,J_,J_,J_,J_,J_,J_,J_,J_,J_,J_,J_,J_,J_,J_,J_,J_,J_,J_,J_,J_,J_,J_,J_,J_,J_,J_,J_,J_,J_,J_,J_,J_,J_,J_,J_,J_,J_,J_,J_,J_,J_,J_,J_,J_,J_,J_,J_,J_,J_,J_,N_,N_,N_,N_,N_,N_,N_,N_,N_,N_,N_,N_,N_,N_,N_,N_,N_,N_,N_,N_] HT_.out ?_
                   refine pY 56 68 #[J_,J_,J_,J_,J_,J_,J_,J_,J_,J_,J_,J_,J_,J_,J_,J_,J_,J_,J_,J_,J_,J_,J_,J_,J_,J_,J_,J_,J_,J_,J_,J_,J_,J_,J_,J_,J_,J_,J_,J_,J_,J_,J_,J_,J_,J_,J_,J_,J_,J_,J_,J_,J_,J_,J_,J_,J_,N_,N_,N_,N_,N_,N_,N_,N_,N_,N_,N_,N_,N_,N_,N_,N_,N_,N_,N_] HT_.out ?_
                   refine pY 57 69 #[J_,J_,J_,J_,J_,J_,J_,J_,J_,J_,J_,J_,J_,J_,J_,J_,J_,J_,J_,J_,J_,J_,J_,J_,J_,J_,J_,J_,J_,J_,J_,J_,J_,J_,J_,J_,J_,J_,J_,J_,J_,J_,J_,J_,J_,J_,J_,J_,J_,J_,J_,J_,J_,J_,J_,J_,J_,J_,N_,N_,N_,N_,N_,N_,N_,N_,N_,N_,N_,N_,N_,N_,N_,N_,N_,N_] HT_.out ?_
                   refine pY 58 70 #[J_,J_,J_,J_,J_,J_,J_,J_,J_,J_,J_,J_,J_,J_,J_,J_,J_,J_,J_,J_,J_,J_,J_,J_,J_,J_,J_,J_,J_,J_,J_,J_,J_,J_,J_,J_,J_,J_,J_,J_,J_,J_,J_,J_,J_,J_,J_,J_,J_,J_,J_,J_,J_,J_,J_,J_,J_,J_,J_,N_,N_,N_,N_,N_,N_,N_,N_,N_,N_,N_,N_,N_,N_,N_,N_,N_] HT_.out ?_
                   refine pY 59 71 #[J_,J_,J_,J_,J_,J_,J_,J_,J_,J_,J_,J_,J_,J_,J_,J_,J_,J_,J_,J_,J_,J_,J_,J_,J_,J_,J_,J_,J_,J_,J_,J_,J_,J_,J_,J_,J_,J_,J_,J_,J_,J_,J_,J_,J_,J_,J_,J_,J_,J_,J_,J_,J_,J_,J_,J_,J_,J_,J_,J_,N_,N_,N_,N_,N_,N_,N_,N_,N_,N_,N_,N_,N_,N_,N_,N_] HT_.out ?_
                   refine pY 60 72 #[J_,J_,J_,J_,J_,J_,J_,J_,J_,J_,J_,J_,J_,J_,J_,J_,J_,J_,J_,J_,J_,J_,J_,J_,J_,J_,J_,J_,J_,J_,J_,J_,J_,J_,J_,J_,J_,J_,J_,J_,J_,J_,J_,J_,J_,J_,J_,J_,J_,J_,J_,J_,J_,J_,J_,J_,J_,J_,J_,J_,J_,N_,N_,N_,N_,N_,N_,N_,N_,N_,N_,N_,N_,N_,N_,N_] HT_.out ?_
                   refine pY 61 73 #[J_,J_,J_,J_,J_,J_,J_,J_,J_,J_,J_,J_,J_,J_,J_,J_,J_,J_,J_,J_,J_,J_,J_,J_,J_,J_,J_,J_,J_,J_,J_,J_,J_,J_,J_,J_,J_,J_,J_,J_,J_,J_,J_,J_,J_,J_,J_,J_,J_,J_,J_,J_,J_,J_,J_,J_,J_,J_,J_,J_,J_,J_,N_,N_,N_,N_,N_,N_,N_,N_,N_,N_,N_,N_,N_,N_] HT_.out ?_
                   refine pY 62 74 #[J_,J_,J_,J_,J_,J_,J_,J_,J_,J_,J_,J_,J_,J_,J_,J_,J_,J_,J_,J_,J_,J_,J_,J_,J_,J_,J_,J_,J_,J_,J_,J_,J_,J_,J_,J_,J_,J_,J_,J_,J_,J_,J_,J_,J_,J_,J_,J_,J_,J_,J_,J_,J_,J_,J_,J_,J_,J_,J_,J_,J_,J_,J_,N_,N_,N_,N_,N_,N_,N_,N_,N_,N_,N_,N_,N_] HT_.out ?_
                   refine pY 63 75 #[J_,J_,J_,J_,J_,J_,J_,J_,J_,J_,J_,J_,J_,J_,J_,J_,J_,J_,J_,J_,J_,J_,J_,J_,J_,J_,J_,J_,J_,J_,J_,J_,J_,J_,J_,J_,J_,J_,J_,J_,J_,J_,J_,J_,J_,J_,J_,J_,J_,J_,J_,J_,J_,J_,J_,J_,J_,J_,J_,J_,J_,J_,J_,J_,N_,N_,N_,N_,N_,N_,N_,N_,N_,N_,N_,N_] HT_.out ?_
                   refine pY 64 76 #[J_,J_,J_,J_,J_,J_,J_,J_,J_,J_,J_,J_,J_,J_,J_,J_,J_,J_,J_,J_,J_,J_,J_,J_,J_,J_,J_,J_,J_,J_,J_,J_,J_,J_,J_,J_,J_,J_,J_,J_,J_,J_,J_,J_,J_,J_,J_,J_,J_,J_,J_,J_,J_,J_,J_,J_,J_,J_,J_,J_,J_,J_,J_,J_,J_,N_,N_,N_,N_,N_,N_,N_,N_,N_,N_,N_] HT_.out ?_
                   refine pY 65 77 #[J_,J_,J_,J_,J_,J_,J_,J_,J_,J_,J_,J_,J_,J_,J_,J_,J_,J_,J_,J_,J_,J_,J_,J_,J_,J_,J_,J_,J_,J_,J_,J_,J_,J_,J_,J_,J_,J_,J_,J_,J_,J_,J_,J_,J_,J_,J_,J_,J_,J_,J_,J_,J_,J_,J_,J_,J_,J_,J_,J_,J_,J_,J_,J_,J_,J_,N_,N_,N_,N_,N_,N_,N_,N_,N_,N_] HT_.out ?_
                   refine pY 66 78 #[J_,J_,J_,J_,J_,J_,J_,J_,J_,J_,J_,J_,J_,J_,J_,J_,J_,J_,J_,J_,J_,J_,J_,J_,J_,J_,J_,J_,J_,J_,J_,J_,J_,J_,J_,J_,J_,J_,J_,J_,J_,J_,J_,J_,J_,J_,J_,J_,J_,J_,J_,J_,J_,J_,J_,J_,J_,J_,J_,J_,J_,J_,J_,J_,J_,J_,J_,N_,N_,N_,N_,N_,N_,N_,N_,N_] HT_.out ?_
                   refine pY 68 80 #[J_,J_,J_,J_,J_,J_,J_,J_,J_,J_,J_,J_,J_,J_,J_,J_,J_,J_,J_,J_,J_,J_,J_,J_,J_,J_,J_,J_,J_,J_,J_,J_,J_,J_,J_,J_,J_,J_,J_,J_,J_,J_,J_,J_,J_,J_,J_,J_,J_,J_,J_,J_,J_,J_,J_,J_,J_,J_,J_,J_,J_,J_,J_,J_,J_,J_,J_,N_,J_,N_,N_,N_,N_,N_,N_,N_] HT_.out ?_
                   refine pY 69 81 #[J_,J_,J_,J_,J_,J_,J_,J_,J_,J_,J_,J_,J_,J_,J_,J_,J_,J_,J_,J_,J_,J_,J_,J_,J_,J_,J_,J_,J_,J_,J_,J_,J_,J_,J_,J_,J_,J_,J_,J_,J_,J_,J_,J_,J_,J_,J_,J_,J_,J_,J_,J_,J_,J_,J_,J_,J_,J_,J_,J_,J_,J_,J_,J_,J_,J_,J_,N_,J_,J_,N_,N_,N_,N_,N_,N_] HT_.out ?_
                   refine take_ (i := 67) (N := some 79) (v := ?_) (a' := ?_) #[J_,J_,J_,J_,J_,J_,J_,J_,J_,J_,J_,J_,J_,J_,J_,J_,J_,J_,J_,J_,J_,J_,J_,J_,J_,J_,J_,J_,J_,J_,J_,J_,J_,J_,J_,J_,J_,J_,J_,J_,J_,J_,J_,J_,J_,J_,J_,J_,J_,J_,J_,J_,J_,J_,J_,J_,J_,J_,J_,J_,J_,J_,J_,J_,J_,J_,J_,J_,J_,J_,N_,N_,N_,N_,N_,N_] rfl rfl (take_ofW HT_.out HW_.out (by kernel_rfl)) (fun _ _ _ h => h) (Or.inl ⟨by rfl, ?_⟩) hHeld ?_ ?_
                   rotate_left
                   ·rintro w' ⟨s0, s1, s2, s3, s4, s5, s6, s7, s8, s9, s10, s11, s12, s13, s14, s15, s16, s17⟩
                    go_simp
                    with_reducible rfl
                   rotate_left
                   ·simp only [Act.put, List.setIfInBounds_toArray, List.set_cons_zero, List.set_cons_succ, i64_w, i32_w]
                    rfl
                   refine take_ (i := 70) (N := some 82) (v := ?_) (a' := ?_) #[J_,J_,J_,J_,J_,J_,J_,J_,J_,J_,J_,J_,J_,J_,J_,J_,J_,J_,J_,J_,J_,J_,J_,J_,J_,J_,J_,J_,J_,J_,J_,J_,J_,J_,J_,J_,J_,J_,J_,J_,J_,J_,J_,J_,J_,J_,J_,J_,J_,J_,J_,J_,J_,J_,J_,J_,J_,J_,J_,J_,J_,J_,J_,J_,J_,J_,J_,J_,J_,J_,J_,N_,N_,N_,N_,N_] rfl rfl (take_ofW HT_.out HW_.out (by kernel_rfl)) (fun _ _ _ h => h) (Or.inl ⟨by rfl, ?_⟩) hHeld ?_ ?_
                   rotate_left
                   ·rintro w' ⟨s0, s1, s2, s3, s4, s5, s6, s7, s8, s9, s10, s11, s12, s13, s14, s15, s16, s17⟩
                    go_simp
                    with_reducible rfl
                   rotate_left
                   ·simp only [Act.put, List.setIfInBounds_toArray, List.set_cons_zero, List.set_cons_succ, i64_w, i32_w]
                    rfl
                   refine one_ (i := 71) (N := some 83) #[J_,J_,J_,J_,J_,J_,J_,J_,J_,J_,J_,J_,J_,J_,J_,J_,J_,J_,J_,J_,J_,J_,J_,J_,J_,J_,J_,J_,J_,J_,J_,J_,J_,J_,J_,J_,J_,J_,J_,J_,J_,J_,J_,J_,J_,J_,J_,J_,J_,J_,J_,J_,J_,J_,J_,J_,J_,J_,J_,J_,J_,J_,J_,J_,J_,J_,J_,J_,J_,J_,J_,J_,N_,N_,N_,N_] rfl rfl (one_of HT_.out (by kernel_rfl)) (by decide) (fun K hK => ?_)
                   refine Kd.R_lit_step k39 _ 39 ?hg (N := 83) ?hd (xs := ([(⟨(rd_T39 t209 0).f0, (rd_T39 t209 0).f1⟩ : S39), (⟨(rd_T39 t209 1).f0, (rd_T39 t209 1).f1⟩ : S39)] : List (S39))) (inner := [.string ((rd_T39 t209 0).f0), .string ((rd_T39 t209 0).f1), .string ((rd_T39 t209 1).f0), .string ((rd_T39 t209 1).f1)]) (ok := fun _ => True) (okp := fun _ => True) ?hr ?hp (fun _ hk => hk) trivial (Below.refl _ _) (Nat.le_refl _) (by simp) ?_; (case hd => rfl); (case hg => rfl); (case hr => first | (go_simp; done) | (go_simp; rfl)); (case hp => exact (Reps.c2 (show Kd.M k39 _ _ _ (⟨(rd_T39 t209 0).f0, (rd_T39 t209 0).f1⟩ : S39) [.string ((rd_T39 t209 0).f0), .string ((rd_T39 t209 0).f1)] from (k39_mkM _ _ _ (⟨(rd_T39 t209 0).f0, (rd_T39 t209 0).f1⟩ : S39) )) (Reps.c2 (show Kd.M k39 _ _ _ (⟨(rd_T39 t209 1).f0, (rd_T39 t209 1).f1⟩ : S39) [.string ((rd_T39 t209 1).f0), .string ((rd_T39 t209 1).f1)] from (k39_mkM _ _ _ (⟨(rd_T39 t209 1).f0, (rd_T39 t209 1).f1⟩ : S39) )) (Reps.none _ _))))
                   intro v227 w29 ho30 hb hg_ hnew_
                   have HS0_ := (hb.cell (World.block_lt_of_cell? _ _ (hHeld.1))).trans (hHeld.1)
                   have HS1_ := (hb.cell (World.block_lt_of_cell? _ _ (hHeld.2.1))).trans (hHeld.2.1)
                   have HS2_ := (hb.cell (World.block_lt_of_cell? _ _ (hHeld.2.2.1))).trans (hHeld.2.2.1)
                   have HS3_ := (hb.cell (World.block_lt_of_cell? _ _ (hHeld.2.2.2.1))).trans (hHeld.2.2.2.1)
                   have HS4_ := (hb.cell (World.block_lt_of_cell? _ _ (hHeld.2.2.2.2.1))).trans (hHeld.2.2.2.2.1)
                   have HS5_ := (hb.cell (World.block_lt_of_cell? _ _ (hHeld.2.2.2.2.2.1))).trans (hHeld.2.2.2.2.2.1)
                   have HS6_ := (hb.cell (World.block_lt_of_cell? _ _ (hHeld.2.2.2.2.2.2.1))).trans (hHeld.2.2.2.2.2.2.1)
                   have HS7_ := (hb.cell (World.block_lt_of_cell? _ _ (hHeld.2.2.2.2.2.2.2.1))).trans (hHeld.2.2.2.2.2.2.2.1)
                   have HS8_ := (hb.cell (World.block_lt_of_cell? _ _ (hHeld.2.2.2.2.2.2.2.2.1))).trans (hHeld.2.2.2.2.2.2.2.2.1)
                   have HS9_ := (hb.cell (World.block_lt_of_cell? _ _ (hHeld.2.2.2.2.2.2.2.2.2.1))).trans (hHeld.2.2.2.2.2.2.2.2.2.1)
                   have HS10_ := (hb.cell (World.block_lt_of_cell? _ _ (hHeld.2.2.2.2.2.2.2.2.2.2.1))).trans (hHeld.2.2.2.2.2.2.2.2.2.2.1)
                   have HS11_ := (hb.cell (World.block_lt_of_cell? _ _ (hHeld.2.2.2.2.2.2.2.2.2.2.2.1))).trans (hHeld.2.2.2.2.2.2.2.2.2.2.2.1)
                   have HS12_ := (hb.cell (World.block_lt_of_cell? _ _ (hHeld.2.2.2.2.2.2.2.2.2.2.2.2.1))).trans (hHeld.2.2.2.2.2.2.2.2.2.2.2.2.1)
                   have HS13_ := (hb.cell (World.block_lt_of_cell? _ _ (hHeld.2.2.2.2.2.2.2.2.2.2.2.2.2.1))).trans (hHeld.2.2.2.2.2.2.2.2.2.2.2.2.2.1)
                   have HS14_ := (hb.cell (World.block_lt_of_cell? _ _ (hHeld.2.2.2.2.2.2.2.2.2.2.2.2.2.2.1))).trans (hHeld.2.2.2.2.2.2.2.2.2.2.2.2.2.2.1)
                   have HS15_ := (hb.cell (World.block_lt_of_cell? _ _ (hHeld.2.2.2.2.2.2.2.2.2.2.2.2.2.2.2.1))).trans (hHeld.2.2.2.2.2.2.2.2.2.2.2.2.2.2.2.1)
                   have HS16_ := (hb.cell (World.block_lt_of_cell? _ _ (hHeld.2.2.2.2.2.2.2.2.2.2.2.2.2.2.2.2.1))).trans (hHeld.2.2.2.2.2.2.2.2.2.2.2.2.2.2.2.2.1)
                   have HS17_ := (hb.cell (World.block_lt_of_cell? _ _ (hHeld.2.2.2.2.2.2.2.2.2.2.2.2.2.2.2.2.2))).trans (hHeld.2.2.2.2.2.2.2.2.2.2.2.2.2.2.2.2.2)
                   clear hg_ hnew_
                   (first | rw [← Ny226.out] at ho30 | (simp only [Int.reduceToNat] at ho30; rw [← Ny226.out] at ho30))
                   have n0_ := Aside0.mk (Kd.R_elder' (rz HO211.out) (Kd.R_base ho30) hb)
                   have n1_ := Aside0.mk (Kd.R_elder' (rz HO214.out) (Kd.R_base ho30) hb)
                   have n2_ := Aside0.mk (Kd.R_lower (Kd.R_new' (Kd.R_new' ho30 (Kd.R_lt (rz HO211.out))) (Kd.R_lt (rz HO214.out))) (below_size bl))
                   have n3_ := Aside0.mk (below_step bl hb)
                   clear HO211
                   clear HO214
                   clear HB
                   have HO211 := n0_
                   have HO214 := n1_
                   have HO228 := n2_
                   have HB := n3_
                   clear n0_ n1_ n2_ n3_
                   clear hb ho30
                   obtain ⟨Ao31, co31, eo31⟩ := Kd.R_slice HO228.out
                   (first | subst eo31 | (injection eo31 with f1_ f2_ f3_; have f4_ := f1_.symm; have f5_ := f3_.symm; clear f1_ f2_ f3_; subst f4_; subst f5_))
                   refine hK.out _ _ ⟨HS0_, HS1_, HS2_, HS3_, HS4_, HS5_, HS6_, HS7_, HS8_, HS9_, HS10_, HS11_, HS12_, HS13_, HS14_, HS15_, HS16_, HS17_⟩ (fun hHeld => ?_)
                   clear hK K
                   refine norm_ (a' := ?_) ?_ ?_
                   rotate_left
                   ·show Act.put _ (some 83) _ = _
                    simp only [Act.put, List.setIfInBounds_toArray, List.set_cons_zero, List.set_cons_succ, i64_w, i32_w]
                    rfl
                   refine one_ (i := 72) (N := some 84) #[J_,J_,J_,J_,J_,J_,J_,J_,J_,J_,J_,J_,J_,J_,J_,J_,J_,J_,J_,J_,J_,J_,J_,J_,J_,J_,J_,J_,J_,J_,J_,J_,J_,J_,J_,J_,J_,J_,J_,J_,J_,J_,J_,J_,J_,J_,J_,J_,J_,J_,J_,J_,J_,J_,J_,J_,J_,J_,J_,J_,J_,J_,J_,J_,J_,J_,J_,J_,J_,J_,J_,J_,J_,N_,N_,N_] rfl rfl (one_of HT_.out (by kernel_rfl)) (by decide) (fun K hK => ?_)
                   refine goes_ Try.func16 (by kernel_rfl) rfl #[.slice Ao31 y226.length co31] (by rfl) rfl rfl ml ?_
                   with_reducible refine (logfmt_Put.calls k _ _ y226 t229 _ ?side1 ?side2 A22.out).mono ?_
                   (case side1 => exact cz (Kd.R_reads' HO228.out).2.2)
                   (case side2 => exact (Kd.R_reads' HO228.out).2.1)
                   rintro e w32 ⟨rfl, hb⟩
                   have HS0_ := (hb.cell (World.block_lt_of_cell? _ _ (hHeld.1))).trans (hHeld.1)
                   have HS1_ := (hb.cell (World.block_lt_of_cell? _ _ (hHeld.2.1))).trans (hHeld.2.1)
                   have HS2_ := (hb.cell (World.block_lt_of_cell? _ _ (hHeld.2.2.1))).trans (hHeld.2.2.1)
                   have HS3_ := (hb.cell (World.block_lt_of_cell? _ _ (hHeld.2.2.2.1))).trans (hHeld.2.2.2.1)
                   have HS4_ := (hb.cell (World.block_lt_of_cell? _ _ (hHeld.2.2.2.2.1))).trans (hHeld.2.2.2.2.1)
                   have HS5_ := (hb.cell (World.block_lt_of_cell? _ _ (hHeld.2.2.2.2.2.1))).trans (hHeld.2.2.2.2.2.1)
                   have HS6_ := (hb.cell (World.block_lt_of_cell? _ _ (hHeld.2.2.2.2.2.2.1))).trans (hHeld.2.2.2.2.2.2.1)
                   have HS7_ := (hb.cell (World.block_lt_of_cell? _ _ (hHeld.2.2.2.2.2.2.2.1))).trans (hHeld.2.2.2.2.2.2.2.1)
                   have HS8_ := (hb.cell (World.block_lt_of_cell? _ _ (hHeld.2.2.2.2.2.2.2.2.1))).trans (hHeld.2.2.2.2.2.2.2.2.1)
                   have HS9_ := (hb.cell (World.block_lt_of_cell? _ _ (hHeld.2.2.2.2.2.2.2.2.2.1))).trans (hHeld.2.2.2.2.2.2.2.2.2.1)
                   have HS10_ := (hb.cell (World.block_lt_of_cell? _ _ (hHeld.2.2.2.2.2.2.2.2.2.2.1))).trans (hHeld.2.2.2.2.2.2.2.2.2.2.1)
                   have HS11_ := (hb.cell (World.block_lt_of_cell? _ _ (hHeld.2.2.2.2.2.2.2.2.2.2.2.1))).trans (hHeld.2.2.2.2.2.2.2.2.2.2.2.1)
                   have HS12_ := (hb.cell (World.block_lt_of_cell? _ _ (hHeld.2.2.2.2.2.2.2.2.2.2.2.2.1))).trans (hHeld.2.2.2.2.2.2.2.2.2.2.2.2.1)
                   have HS13_ := (hb.cell (World.block_lt_of_cell? _ _ (hHeld.2.2.2.2.2.2.2.2.2.2.2.2.2.1))).trans (hHeld.2.2.2.2.2.2.2.2.2.2.2.2.2.1)
                   have HS14_ := (hb.cell (World.block_lt_of_cell? _ _ (hHeld.2.2.2.2.2.2.2.2.2.2.2.2.2.2.1))).trans (hHeld.2.2.2.2.2.2.2.2.2.2.2.2.2.2.1)
                   have HS15_ := (hb.cell (World.block_lt_of_cell? _ _ (hHeld.2.2.2.2.2.2.2.2.2.2.2.2.2.2.2.1))).trans (hHeld.2.2.2.2.2.2.2.2.2.2.2.2.2.2.2.1)
                   have HS16_ := (hb.cell (World.block_lt_of_cell? _ _ (hHeld.2.2.2.2.2.2.2.2.2.2.2.2.2.2.2.2.1))).trans (hHeld.2.2.2.2.2.2.2.2.2.2.2.2.2.2.2.2.1)
                   have HS17_ := (hb.cell (World.block_lt_of_cell? _ _ (hHeld.2.2.2.2.2.2.2.2.2.2.2.2.2.2.2.2.2))).trans (hHeld.2.2.2.2.2.2.2.2.2.2.2.2.2.2.2.2.2)
                   refine ⟨_, rfl, ?_⟩
                   have n0_ := Aside0.mk (Kd.R_below (rz HO211.out) hb)
                   have n1_ := Aside0.mk (Kd.R_below (rz HO214.out) hb)
                   have n2_ := Aside0.mk (Kd.R_below (rz HO228.out) hb)
                   have n3_ := Aside0.mk (below_step bl hb)
                   clear HO211
                   clear HO214
                   clear HO228
                   clear HB
                   have HO211 := n0_
                   have HO214 := n1_
                   have HO228 := n2_
                   have HB := n3_
                   clear n0_ n1_ n2_ n3_
                   (try clear hb)
                   (try clear hb2)
                   (try clear hk)
                   (try clear hi)
                   refine hK.out _ _ ⟨HS0_, HS1_, HS2_, HS3_, HS4_, HS5_, HS6_, HS7_, HS8_, HS9_, HS10_, HS11_, HS12_, HS13_, HS14_, HS15_, HS16_, HS17_⟩ (fun hHeld => ?_)
                   clear hK K
                   refine norm_ (a' := ?_) ?_ ?_
                   rotate_left
                   ·show Act.put _ (some 84) _ = _
                    simp only [Act.put, List.setIfInBounds_toArray, List.set_cons_zero, List.set_cons_succ, i64_w, i32_w]
                    rfl
                   refine pY 73 85 #[J_,J_,J_,J_,J_,J_,J_,J_,J_,J_,J_,J_,J_,J_,J_,J_,J_,J_,J_,J_,J_,J_,J_,J_,J_,J_,J_,J_,J_,J_,J_,J_,J_,J_,J_,J_,J_,J_,J_,J_,J_,J_,J_,J_,J_,J_,J_,J_,J_,J_,J_,J_,J_,J_,J_,J_,J_,J_,J_,J_,J_,J_,J_,J_,J_,J_,J_,J_,J_,J_,J_,J_,J_,J_,N_,N_] HT_.out ?_
                   refine pY 74 86 #[J_,J_,J_,J_,J_,J_,J_,J_,J_,J_,J_,J_,J_,J_,J_,J_,J_,J_,J_,J_,J_,J_,J_,J_,J_,J_,J_,J_,J_,J_,J_,J_,J_,J_,J_,J_,J_,J_,J_,J_,J_,J_,J_,J_,J_,J_,J_,J_,J_,J_,J_,J_,J_,J_,J_,J_,J_,J_,J_,J_,J_,J_,J_,J_,J_,J_,J_,J_,J_,J_,J_,J_,J_,J_,J_,N_] HT_.out ?_
                   refine pY 75 0 #[J_,J_,J_,J_,J_,J_,J_,J_,J_,J_,J_,J_,J_,J_,J_,J_,J_,J_,J_,J_,J_,J_,J_,J_,J_,J_,J_,J_,J_,J_,J_,J_,J_,J_,J_,J_,J_,J_,J_,J_,J_,J_,J_,J_,J_,J_,J_,J_,J_,J_,J_,J_,J_,J_,J_,J_,J_,J_,J_,J_,J_,J_,J_,J_,J_,J_,J_,J_,J_,J_,J_,J_,J_,J_,J_,J_] HT_.out ?_
                   refine done_ (done_of HT_.out (by kernel_rfl)) ?_
                   try go_wp2
                   go_ret
                   exact ⟨by first | rfl | (simp [errW_none, errW_some] <;> rfl) | (simp [*, errW_none, errW_some] <;> rfl), bl⟩
                  ·rw [if_neg c21] at H
                   exact absurd H (by simp)
                 ·replace c20 := Bool.eq_false_iff.mpr c20
                  subst c20
                  have H1 : (none) = some r := by rw [if_neg (show ¬ (false = true) by decide)] at H; exact H
                  clear H
                  have H := H1
                  clear H1
                  exact absurd H (by simp)
                ·rw [if_neg c19] at H
                 have c19b0 : (t215.toList == ([49] : List UInt8)) = false := beq_eq_false_iff_ne.mpr c19
                 have c19b1 : (t215.toList != ([49] : List UInt8)) = true := bne_iff_ne.mpr c19
                 exact absurd H (by simp)
               ·rw [if_neg c18] at H
                have c18b0 : ((t212.length : Int) == 2) = false := beq_eq_false_iff_ne.mpr c18
                have c18b1 : ((t212.length : Int) != 2) = true := bne_iff_ne.mpr c18
                exact absurd H (by simp)
              ·rw [if_neg c17] at H
               have c17b0 : (((rd_T39 t209 6).f1).toList == ([34, 117, 110] : List UInt8)) = false := beq_eq_false_iff_ne.mpr c17
               have c17b1 : (((rd_T39 t209 6).f1).toList != ([34, 117, 110] : List UInt8)) = true := bne_iff_ne.mpr c17
               exact absurd H (by simp)
             ·rw [if_neg c16] at H
              exact absurd H (by simp)
            ·rw [if_neg c15] at H
             have c15b0 : (((rd_T39 t209 5).f0).toList == ([113] : List UInt8)) = false := beq_eq_false_iff_ne.mpr c15
             have c15b1 : (((rd_T39 t209 5).f0).toList != ([113] : List UInt8)) = true := bne_iff_ne.mpr c15
             exact absurd H (by simp)
           ·rw [if_neg c14] at H
            exact absurd H (by simp)
          ·rw [if_neg c13] at H
           have c13b0 : (((rd_T39 t209 4).f0).toList == ([122] : List UInt8)) = false := beq_eq_false_iff_ne.mpr c13
           have c13b1 : (((rd_T39 t209 4).f0).toList != ([122] : List UInt8)) = true := bne_iff_ne.mpr c13
           exact absurd H (by simp)
         ·rw [if_neg c12] at H
          exact absurd H (by simp)
        ·rw [if_neg c11] at H
         have c11b0 : (((rd_T39 t209 3).f1).toList == ([51] : List UInt8)) = false := beq_eq_false_iff_ne.mpr c11
         have c11b1 : (((rd_T39 t209 3).f1).toList != ([51] : List UInt8)) = true := bne_iff_ne.mpr c11
         exact absurd H (by simp)
       ·rw [if_neg c10] at H
        exact absurd H (by simp)
      ·rw [if_neg c9] at H
       have c9b0 : (((rd_T39 t209 2).f1).toList == ([] : List UInt8)) = false := beq_eq_false_iff_ne.mpr c9
       have c9b1 : (((rd_T39 t209 2).f1).toList != ([] : List UInt8)) = true := bne_iff_ne.mpr c9
       exact absurd H (by simp)
     ·rw [if_neg c8] at H
      have c8b0 : (((rd_T39 t209 2).f0).toList == ([99] : List UInt8)) = false := beq_eq_false_iff_ne.mpr c8
      have c8b1 : (((rd_T39 t209 2).f0).toList != ([99] : List UInt8)) = true := bne_iff_ne.mpr c8
      exact absurd H (by simp)
    ·rw [if_neg c7] at H
     exact absurd H (by simp)
   ·rw [if_neg c6] at H
    have c6b0 : (((rd_T39 t209 1).f1).toList == ([120, 32, 121] : List UInt8)) = false := beq_eq_false_iff_ne.mpr c6
    have c6b1 : (((rd_T39 t209 1).f1).toList != ([120, 32, 121] : List UInt8)) = true := bne_iff_ne.mpr c6
    exact absurd H (by simp)
  ·rw [if_neg c5] at H
   exact absurd H (by simp)
 ·rw [if_neg c4] at H
  have c4b0 : ((t209.length : Int) == 7) = false := beq_eq_false_iff_ne.mpr c4
  have c4b1 : ((t209.length : Int) != 7) = true := bne_iff_ne.mpr c4
  exact absurd H (by simp)

end Go.Proofs.Ytielpefbgdilaaa.X
