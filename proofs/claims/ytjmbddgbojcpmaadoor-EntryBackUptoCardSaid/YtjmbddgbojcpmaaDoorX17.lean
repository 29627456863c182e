-- Laid by xprint.py, a program of this session's, out of the translation.
import Derived.Test.YtjmbddgbojcpmaaDoorX0
import Derived.Test.YtjmbddgbojcpmaaDoorX1
import Derived.Test.YtjmbddgbojcpmaaDoorX3
import Derived.Test.YtjmbddgbojcpmaaDoorX6
import Derived.Test.YtjmbddgbojcpmaaDoorX9
import Derived.Test.YtjmbddgbojcpmaaDoorX11
import Derived.Test.YtjmbddgbojcpmaaDoorX12
import Derived.Test.YtjmbddgbojcpmaaDoorX16
namespace Go.Proofs.YtjmbddgbojcpmaaDoor.X
open Go.RowKit Go.Proofs.YtjmbddgbojcpmaaDoorW.PrintWords Go.Proofs.YtjmbddgbojcpmaaDoorW.PrintLast Go.Proofs.YtjmbddgbojcpmaaDoorW.PrintMore
attribute [local go_sem] max2_int min2_int max_two min_two max_three min_three max_four min_four x_isSome x_str_gtr x_str_leq x_str_geq   -- for this text's walks alone
set_option linter.unusedVariables false
set_option linter.unusedSimpArgs false

/-! ### archivistlaw13_EntryBack: function 3 -/
def archivistlaw13_EntryBack.f (k : Nat) (a0_0 : Int) (l0_1 : List (S48)) (a0_2 : ByteArray) (a0_3 : Bool) (a0_4 : Int) (l0_5 : List (S71)) (a0_6 : Int) (a1_0 : Int) (l1_1 : List (S48)) (a1_2 : ByteArray) (a1_3 : Bool) (a1_4 : Int) (l1_5 : List (S71)) (a1_6 : Int) (a2 : ByteArray) (a3 : Int) : Option (Bool) := (archivistlaw13_examples.f k).bind fun t315 => (if t315 = true then ((archivistlaw13_Item_item.f k a0_0 l0_1 a0_2 a0_3 a0_4 l0_5 a0_6).bind fun bt316 => ((archivistlaw13_Item_item.f k a1_0 l1_1 a1_2 a1_3 a1_4 l1_5 a1_6).bind fun bt322 => ((entry_Put.f k bt316.1 bt316.2.1 bt316.2.2).bind fun t328 => (if t328.toList = ([] : List UInt8) then (none) else (if t328.size + a2.size ≤ 9223372036854775807 then ((entry_Parse.f k (t328 ++ a2)).bind fun bt329 => (if (t328.size : Int) = 0 then (none) else (if 0 ≤ (Int.tmod (wrap64 (a3)) (t328.size : Int)) then (if (Int.tmod (wrap64 (a3)) (t328.size : Int)) ≤ (t328.size : Int) then ((entry_Parse.f k (t328.extract 0 ((Int.tmod (wrap64 (a3)) (t328.size : Int)) : Int).toNat)).bind fun bt337 => ((entry_Right.f k bt316.1 bt316.2.1 bt316.2.2).bind fun t345 => (if t345 = true then (if bt329.2.2.2.2 = true then ((entry_Same.f k bt316.1 bt316.2.1 bt316.2.2 bt329.1 bt329.2.1 bt329.2.2.1).bind fun t346 => (if t346 = true then (if bt329.2.2.2.1 = (t328.size : Int) then (if bt337.2.2.2.2 = true then (none) else ((entry_Right.f k bt322.1 bt322.2.1 bt322.2.2).bind fun t347 => (if t347 = true then ((entry_Put.f k bt322.1 bt322.2.1 bt322.2.2).bind fun t348 => ((entry_Same.f k bt316.1 bt316.2.1 bt316.2.2 bt322.1 bt322.2.1 bt322.2.2).bind fun t349 => (some ((t328.toList == t348.toList) == t349)))) else (some true)))) else (none)) else (none))) else (none)) else (some true)))) else (none)) else (none)))) else (none)))))) else (none))
theorem archivistlaw13_EntryBack.mono : ∀ a0 a1 a2 a3 a4 a5 a6 a7 a8 a9 a10 a11 a12 a13 a14 a15 k, LeO (archivistlaw13_EntryBack.f k a0 a1 a2 a3 a4 a5 a6 a7 a8 a9 a10 a11 a12 a13 a14 a15) (archivistlaw13_EntryBack.f (k + 1) a0 a1 a2 a3 a4 a5 a6 a7 a8 a9 a10 a11 a12 a13 a14 a15) := by
 intro a0 a1 a2 a3 a4 a5 a6 a7 a8 a9 a10 a11 a12 a13 a14 a15 k
 unfold archivistlaw13_EntryBack.f
 repeat' first
   | (with_reducible exact archivistlaw13_Item_item.mono _ _ _ _ _ _ _ _)
   | (with_reducible exact archivistlaw13_examples.mono _)
   | (with_reducible exact entry_Parse.mono _ _)
   | (with_reducible exact entry_Put.mono _ _ _ _)
   | (with_reducible exact entry_Right.mono _ _ _ _)
   | (with_reducible exact entry_Same.mono _ _ _ _ _ _ _)
   | (with_reducible exact LeO.refl _)
   | (with_reducible exact LeO.none _)
   | (with_reducible refine LeO.ite ?_ ?_)
   | (with_reducible refine LeO.bind ?_ (fun _ => ?_))
   | exact archivistlaw13_Item_item.mono _ _ _ _ _ _ _ _
   | exact archivistlaw13_examples.mono _
   | exact entry_Parse.mono _ _
   | exact entry_Put.mono _ _ _ _
   | exact entry_Right.mono _ _ _ _
   | exact entry_Same.mono _ _ _ _ _ _ _
   | exact LeO.none _
   | refine LeO.ite ?_ ?_
   | refine LeO.bind ?_ (fun _ => ?_)
def archivistlaw13_EntryBack.T12 : Bool × List (List Nat × List Nat) := (true, [([], []), ([0], [0]), ([1], [1]), ([2, 1], [1, 2]), ([3, 1, 1], [1, 3]), ([4], [4]), ([5, 4, 4], [4, 5]), ([6], [6]), ([6], [6]), ([7, 8, 6, 6], [6, 7, 8]), ([6, 9, 4], [4, 6, 9]), ([10, 9, 4], [4, 10]), ([11], [11]), ([11], [11]), ([13, 11], [11, 13]), ([12, 14, 11], [11, 12, 14]), ([11, 15, 4], [4, 11, 15]), ([4, 16, 1], [1, 4, 16]), ([1, 17], [1, 17]), ([18, 11], [18]), ([19], [19]), ([20, 19], [19, 20]), ([21, 19, 19], [19, 21]), ([22], [22]), ([23, 22], [22, 23]), ([22, 24, 19], [19, 22, 24]), ([19, 25], [19, 25]), ([26, 22], [26]), ([27], [27]), ([28, 27], [27, 28]), ([29, 27, 27], [27, 29]), ([30], [30]), ([31, 30, 30], [30, 31]), ([32, 30], [30, 32]), ([30, 33, 27], [27, 30, 33]), ([34, 32, 27], [27, 34]), ([35], [35]), ([35], [35]), ([37, 35, 35], [35, 37]), ([36, 38, 35], [35, 36, 38]), ([35], [35]), ([35], [35]), ([40, 41, 38, 35], [35, 40, 41]), ([39, 42, 35], [35, 39, 42]), ([35, 43, 27], [27, 35, 43]), ([27, 44], [27, 44]), ([45, 42, 0, 1, 2, 3, 4, 5, 6, 7, 8, 9, 10, 11, 12, 13, 14, 15, 16, 17, 18, 19, 20, 21, 22, 23, 24, 25, 26, 27, 28, 29, 30, 31, 32, 33, 34, 35, 36, 37, 38, 39, 40, 41, 42, 43, 44, 45], [45])])
def archivistlaw13_EntryBack.B12 : List Nat := [0, 1, 3, 7, 15, 31, 63, 127, 127, 511, 1023, 2047, 4095, 4095, 12287, 32767, 65535, 131071, 262143, 524287, 1048575, 2097151, 4194303, 8388607, 16777215, 33554431, 67108863, 134217727, 268435455, 536870911, 1073741823, 2147483647, 4294967295, 8589934591, 17179869183, 34359738367, 68719476735, 68719476735, 206158430207, 549755813887, 68719476735, 68719476735, 3779571220479, 8796093022207, 17592186044415, 35184372088831, 70368744177663]
theorem archivistlaw13_EntryBack.tab12 : rtab .any (opsOf Tryd.f3 12) = archivistlaw13_EntryBack.T12 := by kernel_rfl
theorem archivistlaw13_EntryBack.bits12 : waitsOk archivistlaw13_EntryBack.T12.2 archivistlaw13_EntryBack.B12 = true := by kernel_rfl
set_option maxHeartbeats 8000000 in
set_option maxRecDepth 100000 in
theorem archivistlaw13_EntryBack.calls (k : Nat) (a0_0 : Int) (A0_1 : Option Addr) (c0_1 : Nat) (l0_1 : List (S48)) (a0_2 : ByteArray) (a0_3 : Bool) (a0_4 : Int) (A0_5 : Option Addr) (c0_5 : Nat) (l0_5 : List (S71)) (a0_6 : Int) (a1_0 : Int) (A1_1 : Option Addr) (c1_1 : Nat) (l1_1 : List (S48)) (a1_2 : ByteArray) (a1_3 : Bool) (a1_4 : Int) (A1_5 : Option Addr) (c1_5 : Nat) (l1_5 : List (S71)) (a1_6 : Int) (a2 : ByteArray) (a3 : Int) (r : Bool) (w : World) (hr0_1 : Kd.C k48 w A0_1 l0_1.length l0_1) (hc0_1 : l0_1.length ≤ c0_1) (hr0_5 : Kd.C k71 w A0_5 l0_5.length l0_5) (hc0_5 : l0_5.length ≤ c0_5) (hr1_1 : Kd.C k48 w A1_1 l1_1.length l1_1) (hc1_1 : l1_1.length ≤ c1_1) (hr1_5 : Kd.C k71 w A1_5 l1_5.length l1_5) (hc1_5 : l1_5.length ≤ c1_5) (h : archivistlaw13_EntryBack.f k a0_0 l0_1 a0_2 a0_3 a0_4 l0_5 a0_6 a1_0 l1_1 a1_2 a1_3 a1_4 l1_5 a1_6 a2 a3 = some r) (hLd : Laid w) :
  Calls Tryd.prog 3 #[.agg #[.int .i64 a0_0, .slice A0_1 l0_1.length c0_1, .string a0_2, .bool a0_3, .int .i8 a0_4, .slice A0_5 l0_5.length c0_5, .int .u8 a0_6], .agg #[.int .i64 a1_0, .slice A1_1 l1_1.length c1_1, .string a1_2, .bool a1_3, .int .i8 a1_4, .slice A1_5 l1_5.length c1_5, .int .u8 a1_6], .string a2, .int .u16 a3] w fun e w' => e = .returned (.bool r) ∧ Below w.heap.size w w' := by
 have hu29 := Tryd.underlying29
 have hu25 := Tryd.underlying25
 have HR0_1 := Aside0.mk hr0_1
 have HC0_1 := Aside0.mk hc0_1
 clear hr0_1 hc0_1
 have HR0_5 := Aside0.mk hr0_5
 have HC0_5 := Aside0.mk hc0_5
 clear hr0_5 hc0_5
 have HR1_1 := Aside0.mk hr1_1
 have HC1_1 := Aside0.mk hc1_1
 clear hr1_1 hc1_1
 have HR1_5 := Aside0.mk hr1_5
 have HC1_5 := Aside0.mk hc1_5
 clear hr1_5 hc1_5
 have HLd := Aside0.mk hLd
 clear hLd
 have HB := Aside0.mk (Below.refl w.heap.size w)
 have H : ((archivistlaw13_examples.f k).bind fun t315 => (if t315 = true then ((archivistlaw13_Item_item.f k a0_0 l0_1 a0_2 a0_3 a0_4 l0_5 a0_6).bind fun bt316 => ((archivistlaw13_Item_item.f k a1_0 l1_1 a1_2 a1_3 a1_4 l1_5 a1_6).bind fun bt322 => ((entry_Put.f k bt316.1 bt316.2.1 bt316.2.2).bind fun t328 => (if t328.toList = ([] : List UInt8) then (none) else (if t328.size + a2.size ≤ 9223372036854775807 then ((entry_Parse.f k (t328 ++ a2)).bind fun bt329 => (if (t328.size : Int) = 0 then (none) else (if 0 ≤ (Int.tmod (wrap64 (a3)) (t328.size : Int)) then (if (Int.tmod (wrap64 (a3)) (t328.size : Int)) ≤ (t328.size : Int) then ((entry_Parse.f k (t328.extract 0 ((Int.tmod (wrap64 (a3)) (t328.size : Int)) : Int).toNat)).bind fun bt337 => ((entry_Right.f k bt316.1 bt316.2.1 bt316.2.2).bind fun t345 => (if t345 = true then (if bt329.2.2.2.2 = true then ((entry_Same.f k bt316.1 bt316.2.1 bt316.2.2 bt329.1 bt329.2.1 bt329.2.2.1).bind fun t346 => (if t346 = true then (if bt329.2.2.2.1 = (t328.size : Int) then (if bt337.2.2.2.2 = true then (none) else ((entry_Right.f k bt322.1 bt322.2.1 bt322.2.2).bind fun t347 => (if t347 = true then ((entry_Put.f k bt322.1 bt322.2.1 bt322.2.2).bind fun t348 => ((entry_Same.f k bt316.1 bt316.2.1 bt316.2.2 bt322.1 bt322.2.1 bt322.2.2).bind fun t349 => (some ((t328.toList == t348.toList) == t349)))) else (some true)))) else (none)) else (none))) else (none)) else (some true)))) else (none)) else (none)))) else (none)))))) else (none))) = some r := h
 clear h
 replace H := Option.bind_eq_some_iff.mp H
 obtain ⟨t315, A50, H⟩ := H
 replace H : (if t315 = true then ((archivistlaw13_Item_item.f k a0_0 l0_1 a0_2 a0_3 a0_4 l0_5 a0_6).bind fun bt316 => ((archivistlaw13_Item_item.f k a1_0 l1_1 a1_2 a1_3 a1_4 l1_5 a1_6).bind fun bt322 => ((entry_Put.f k bt316.1 bt316.2.1 bt316.2.2).bind fun t328 => (if t328.toList = ([] : List UInt8) then (none) else (if t328.size + a2.size ≤ 9223372036854775807 then ((entry_Parse.f k (t328 ++ a2)).bind fun bt329 => (if (t328.size : Int) = 0 then (none) else (if 0 ≤ (Int.tmod (wrap64 (a3)) (t328.size : Int)) then (if (Int.tmod (wrap64 (a3)) (t328.size : Int)) ≤ (t328.size : Int) then ((entry_Parse.f k (t328.extract 0 ((Int.tmod (wrap64 (a3)) (t328.size : Int)) : Int).toNat)).bind fun bt337 => ((entry_Right.f k bt316.1 bt316.2.1 bt316.2.2).bind fun t345 => (if t345 = true then (if bt329.2.2.2.2 = true then ((entry_Same.f k bt316.1 bt316.2.1 bt316.2.2 bt329.1 bt329.2.1 bt329.2.2.1).bind fun t346 => (if t346 = true then (if bt329.2.2.2.1 = (t328.size : Int) then (if bt337.2.2.2.2 = true then (none) else ((entry_Right.f k bt322.1 bt322.2.1 bt322.2.2).bind fun t347 => (if t347 = true then ((entry_Put.f k bt322.1 bt322.2.1 bt322.2.2).bind fun t348 => ((entry_Same.f k bt316.1 bt316.2.1 bt316.2.2 bt322.1 bt322.2.1 bt322.2.2).bind fun t349 => (some ((t328.toList == t348.toList) == t349)))) else (some true)))) else (none)) else (none))) else (none)) else (some true)))) else (none)) else (none)))) else (none)))))) else (none)) = some r := H
 have A5 := Aside0.mk A50
 clear A50
 by_cases c6 : t315 = true
 ·subst c6
  have H1 : ((archivistlaw13_Item_item.f k a0_0 l0_1 a0_2 a0_3 a0_4 l0_5 a0_6).bind fun bt316 => ((archivistlaw13_Item_item.f k a1_0 l1_1 a1_2 a1_3 a1_4 l1_5 a1_6).bind fun bt322 => ((entry_Put.f k bt316.1 bt316.2.1 bt316.2.2).bind fun t328 => (if t328.toList = ([] : List UInt8) then (none) else (if t328.size + a2.size ≤ 9223372036854775807 then ((entry_Parse.f k (t328 ++ a2)).bind fun bt329 => (if (t328.size : Int) = 0 then (none) else (if 0 ≤ (Int.tmod (wrap64 (a3)) (t328.size : Int)) then (if (Int.tmod (wrap64 (a3)) (t328.size : Int)) ≤ (t328.size : Int) then ((entry_Parse.f k (t328.extract 0 ((Int.tmod (wrap64 (a3)) (t328.size : Int)) : Int).toNat)).bind fun bt337 => ((entry_Right.f k bt316.1 bt316.2.1 bt316.2.2).bind fun t345 => (if t345 = true then (if bt329.2.2.2.2 = true then ((entry_Same.f k bt316.1 bt316.2.1 bt316.2.2 bt329.1 bt329.2.1 bt329.2.2.1).bind fun t346 => (if t346 = true then (if bt329.2.2.2.1 = (t328.size : Int) then (if bt337.2.2.2.2 = true then (none) else ((entry_Right.f k bt322.1 bt322.2.1 bt322.2.2).bind fun t347 => (if t347 = true then ((entry_Put.f k bt322.1 bt322.2.1 bt322.2.2).bind fun t348 => ((entry_Same.f k bt316.1 bt316.2.1 bt316.2.2 bt322.1 bt322.2.1 bt322.2.2).bind fun t349 => (some ((t328.toList == t348.toList) == t349)))) else (some true)))) else (none)) else (none))) else (none)) else (some true)))) else (none)) else (none)))) else (none)))))) = some r := by rw [if_pos rfl] at H; exact H
  clear H
  have H := H1
  clear H1
  replace H := Option.bind_eq_some_iff.mp H
  obtain ⟨⟨t316, t317, t320⟩, A70, H⟩ := H
  replace H : ((archivistlaw13_Item_item.f k a1_0 l1_1 a1_2 a1_3 a1_4 l1_5 a1_6).bind fun bt322 => ((entry_Put.f k t316 t317 t320).bind fun t328 => (if t328.toList = ([] : List UInt8) then (none) else (if t328.size + a2.size ≤ 9223372036854775807 then ((entry_Parse.f k (t328 ++ a2)).bind fun bt329 => (if (t328.size : Int) = 0 then (none) else (if 0 ≤ (Int.tmod (wrap64 (a3)) (t328.size : Int)) then (if (Int.tmod (wrap64 (a3)) (t328.size : Int)) ≤ (t328.size : Int) then ((entry_Parse.f k (t328.extract 0 ((Int.tmod (wrap64 (a3)) (t328.size : Int)) : Int).toNat)).bind fun bt337 => ((entry_Right.f k t316 t317 t320).bind fun t345 => (if t345 = true then (if bt329.2.2.2.2 = true then ((entry_Same.f k t316 t317 t320 bt329.1 bt329.2.1 bt329.2.2.1).bind fun t346 => (if t346 = true then (if bt329.2.2.2.1 = (t328.size : Int) then (if bt337.2.2.2.2 = true then (none) else ((entry_Right.f k bt322.1 bt322.2.1 bt322.2.2).bind fun t347 => (if t347 = true then ((entry_Put.f k bt322.1 bt322.2.1 bt322.2.2).bind fun t348 => ((entry_Same.f k t316 t317 t320 bt322.1 bt322.2.1 bt322.2.2).bind fun t349 => (some ((t328.toList == t348.toList) == t349)))) else (some true)))) else (none)) else (none))) else (none)) else (some true)))) else (none)) else (none)))) else (none))))) = some r := H
  have A7 := Aside0.mk A70
  clear A70
  replace H := Option.bind_eq_some_iff.mp H
  obtain ⟨⟨t322, t323, t326⟩, A80, H⟩ := H
  replace H : ((entry_Put.f k t316 t317 t320).bind fun t328 => (if t328.toList = ([] : List UInt8) then (none) else (if t328.size + a2.size ≤ 9223372036854775807 then ((entry_Parse.f k (t328 ++ a2)).bind fun bt329 => (if (t328.size : Int) = 0 then (none) else (if 0 ≤ (Int.tmod (wrap64 (a3)) (t328.size : Int)) then (if (Int.tmod (wrap64 (a3)) (t328.size : Int)) ≤ (t328.size : Int) then ((entry_Parse.f k (t328.extract 0 ((Int.tmod (wrap64 (a3)) (t328.size : Int)) : Int).toNat)).bind fun bt337 => ((entry_Right.f k t316 t317 t320).bind fun t345 => (if t345 = true then (if bt329.2.2.2.2 = true then ((entry_Same.f k t316 t317 t320 bt329.1 bt329.2.1 bt329.2.2.1).bind fun t346 => (if t346 = true then (if bt329.2.2.2.1 = (t328.size : Int) then (if bt337.2.2.2.2 = true then (none) else ((entry_Right.f k t322 t323 t326).bind fun t347 => (if t347 = true then ((entry_Put.f k t322 t323 t326).bind fun t348 => ((entry_Same.f k t316 t317 t320 t322 t323 t326).bind fun t349 => (some ((t328.toList == t348.toList) == t349)))) else (some true)))) else (none)) else (none))) else (none)) else (some true)))) else (none)) else (none)))) else (none)))) = some r := H
  have A8 := Aside0.mk A80
  clear A80
  replace H := Option.bind_eq_some_iff.mp H
  obtain ⟨t328, A90, H⟩ := H
  replace H : (if t328.toList = ([] : List UInt8) then (none) else (if t328.size + a2.size ≤ 9223372036854775807 then ((entry_Parse.f k (t328 ++ a2)).bind fun bt329 => (if (t328.size : Int) = 0 then (none) else (if 0 ≤ (Int.tmod (wrap64 (a3)) (t328.size : Int)) then (if (Int.tmod (wrap64 (a3)) (t328.size : Int)) ≤ (t328.size : Int) then ((entry_Parse.f k (t328.extract 0 ((Int.tmod (wrap64 (a3)) (t328.size : Int)) : Int).toNat)).bind fun bt337 => ((entry_Right.f k t316 t317 t320).bind fun t345 => (if t345 = true then (if bt329.2.2.2.2 = true then ((entry_Same.f k t316 t317 t320 bt329.1 bt329.2.1 bt329.2.2.1).bind fun t346 => (if t346 = true then (if bt329.2.2.2.1 = (t328.size : Int) then (if bt337.2.2.2.2 = true then (none) else ((entry_Right.f k t322 t323 t326).bind fun t347 => (if t347 = true then ((entry_Put.f k t322 t323 t326).bind fun t348 => ((entry_Same.f k t316 t317 t320 t322 t323 t326).bind fun t349 => (some ((t328.toList == t348.toList) == t349)))) else (some true)))) else (none)) else (none))) else (none)) else (some true)))) else (none)) else (none)))) else (none))) = some r := H
  have A9 := Aside0.mk A90
  clear A90
  by_cases c10 : t328.toList = ([] : List UInt8)
  ·rw [if_pos c10] at H
   exact absurd H (by simp)
  ·rw [if_neg c10] at H
   have c10b0 : (t328.toList == ([] : List UInt8)) = false := beq_eq_false_iff_ne.mpr c10
   have c10b1 : (t328.toList != ([] : List UInt8)) = true := bne_iff_ne.mpr c10
   by_cases c11 : t328.size + a2.size ≤ 9223372036854775807
   ·rw [if_pos c11] at H
    have c11b0 := eq_true c11
    have c11b1 : decide (t328.size + a2.size ≤ 9223372036854775807) = true := decide_eq_true c11
    try have c11b2 : (9223372036854775807 < t328.size + a2.size) = False := eq_false (Nat.not_lt.2 c11)
    replace H := Option.bind_eq_some_iff.mp H
    obtain ⟨⟨t329, t330, t333, t334, t335⟩, A120, H⟩ := H
    replace H : (if (t328.size : Int) = 0 then (none) else (if 0 ≤ (Int.tmod (wrap64 (a3)) (t328.size : Int)) then (if (Int.tmod (wrap64 (a3)) (t328.size : Int)) ≤ (t328.size : Int) then ((entry_Parse.f k (t328.extract 0 ((Int.tmod (wrap64 (a3)) (t328.size : Int)) : Int).toNat)).bind fun bt337 => ((entry_Right.f k t316 t317 t320).bind fun t345 => (if t345 = true then (if t335 = true then ((entry_Same.f k t316 t317 t320 t329 t330 t333).bind fun t346 => (if t346 = true then (if t334 = (t328.size : Int) then (if bt337.2.2.2.2 = true then (none) else ((entry_Right.f k t322 t323 t326).bind fun t347 => (if t347 = true then ((entry_Put.f k t322 t323 t326).bind fun t348 => ((entry_Same.f k t316 t317 t320 t322 t323 t326).bind fun t349 => (some ((t328.toList == t348.toList) == t349)))) else (some true)))) else (none)) else (none))) else (none)) else (some true)))) else (none)) else (none))) = some r := H
    have A12 := Aside0.mk A120
    clear A120
    by_cases c13 : (t328.size : Int) = 0
    ·rw [if_pos c13] at H
     exact absurd H (by simp)
    ·rw [if_neg c13] at H
     have c13b0 : ((t328.size : Int) == 0) = false := beq_eq_false_iff_ne.mpr c13
     have c13b1 : ((t328.size : Int) != 0) = true := bne_iff_ne.mpr c13
     obtain ⟨ji14, hji14⟩ : ∃ j_ : Int, (Int.tmod (wrap64 (a3)) (t328.size : Int)) = j_ := ⟨_, rfl⟩
     replace H : (if 0 ≤ (ji14) then (if (ji14) ≤ (t328.size : Int) then ((entry_Parse.f k (t328.extract 0 ((ji14) : Int).toNat)).bind fun bt337 => ((entry_Right.f k t316 t317 t320).bind fun t345 => (if t345 = true then (if t335 = true then ((entry_Same.f k t316 t317 t320 t329 t330 t333).bind fun t346 => (if t346 = true then (if t334 = (t328.size : Int) then (if bt337.2.2.2.2 = true then (none) else ((entry_Right.f k t322 t323 t326).bind fun t347 => (if t347 = true then ((entry_Put.f k t322 t323 t326).bind fun t348 => ((entry_Same.f k t316 t317 t320 t322 t323 t326).bind fun t349 => (some ((t328.toList == t348.toList) == t349)))) else (some true)))) else (none)) else (none))) else (none)) else (some true)))) else (none)) else (none)) = some r := by first | (rw [hji14] at H; exact H) | (simp only [hji14] at H ⊢; exact H)
     (try rw [hji14] at A5)
     (try rw [hji14] at A7)
     (try rw [hji14] at A8)
     (try rw [hji14] at A9)
     (try rw [hji14] at A12)
     by_cases c15 : 0 ≤ (ji14)
     ·rw [if_pos c15] at H
      have c15b0 := eq_true c15
      have c15b1 : decide (0 ≤ (ji14)) = true := decide_eq_true c15
      clear c15
      by_cases c16 : (ji14) ≤ (t328.size : Int)
      ·rw [if_pos c16] at H
       have c16b0 := eq_true c16
       have c16b1 : decide ((ji14) ≤ (t328.size : Int)) = true := decide_eq_true c16
       clear c16
       replace H := Option.bind_eq_some_iff.mp H
       obtain ⟨⟨t337, t338, t341, t342, t343⟩, A170, H⟩ := H
       replace H : ((entry_Right.f k t316 t317 t320).bind fun t345 => (if t345 = true then (if t335 = true then ((entry_Same.f k t316 t317 t320 t329 t330 t333).bind fun t346 => (if t346 = true then (if t334 = (t328.size : Int) then (if t343 = true then (none) else ((entry_Right.f k t322 t323 t326).bind fun t347 => (if t347 = true then ((entry_Put.f k t322 t323 t326).bind fun t348 => ((entry_Same.f k t316 t317 t320 t322 t323 t326).bind fun t349 => (some ((t328.toList == t348.toList) == t349)))) else (some true)))) else (none)) else (none))) else (none)) else (some true))) = some r := H
       have A17 := Aside0.mk A170
       clear A170
       replace H := Option.bind_eq_some_iff.mp H
       obtain ⟨t345, A180, H⟩ := H
       replace H : (if t345 = true then (if t335 = true then ((entry_Same.f k t316 t317 t320 t329 t330 t333).bind fun t346 => (if t346 = true then (if t334 = (t328.size : Int) then (if t343 = true then (none) else ((entry_Right.f k t322 t323 t326).bind fun t347 => (if t347 = true then ((entry_Put.f k t322 t323 t326).bind fun t348 => ((entry_Same.f k t316 t317 t320 t322 t323 t326).bind fun t349 => (some ((t328.toList == t348.toList) == t349)))) else (some true)))) else (none)) else (none))) else (none)) else (some true)) = some r := H
       have A18 := Aside0.mk A180
       clear A180
       go_enter Tryd.func3, Tryd.ntmps3
       try go_wp2_with (first | ((with_reducible refine gate_dst (N := 4) rfl ?_); (try (refine gate_guard (by rfl) ?_; dsimp only)); refine box_event ?hg (N := 4) ?hd (cs := #[.int .i64 a0_0, .slice A0_1 l0_1.length c0_1, .string a0_2, .bool a0_3, .int .i8 a0_4, .slice A0_5 l0_5.length c0_5, .int .u8 a0_6]) (t := 29) ?hr ?_; (case hd => rfl); (case hg => rfl); (case hr => first | (go_simp; done) | (go_simp; rfl)); intro gb313 hg w29 hbox hb; have n0_ := Aside0.mk (below_step bl hb); have n1_ := Aside0.mk (hbox); have n2_ := Aside0.mk ((by rw [hg]; exact (below_size bl) : w.heap.size ≤ gb313)); have n3_ := Aside0.mk ((by rw [hg]; exact (below_size bl) : w.heap.size ≤ gb313)); clear HB; have HB := n0_; have BK313 := n1_; have GW313 := n2_; have GE313 := n3_; clear n0_ n1_ n2_ n3_; clear hb hbox hg) | ((with_reducible refine gate_dst (N := 5) rfl ?_); (try (refine gate_guard (by rfl) ?_; dsimp only)); refine box_event ?hg (N := 5) ?hd (cs := #[.int .i64 a1_0, .slice A1_1 l1_1.length c1_1, .string a1_2, .bool a1_3, .int .i8 a1_4, .slice A1_5 l1_5.length c1_5, .int .u8 a1_6]) (t := 29) ?hr ?_; (case hd => rfl); (case hg => rfl); (case hr => first | (go_simp; done) | (go_simp; rfl)); intro gb314 hg w30 hbox hb; have n0_ := Aside0.mk (blk_below (g := gb313) (o := .cells #[.int .i64 a0_0, .slice A0_1 l0_1.length c0_1, .string a0_2, .bool a0_3, .int .i8 a0_4, .slice A0_5 l0_5.length c0_5, .int .u8 a0_6] 29 (0, 0)) (bz BK313.out) hb); have n1_ := Aside0.mk (below_step (by repeat (first | (with_reducible first | exact HB.out | apply below_alloc | apply pw_below_drewN | apply below_drew1 | refine below_set ?_ GE313.out) | exact HB.out)) hb); have n2_ := Aside0.mk (hbox); have n3_ := Aside0.mk ((by rw [hg]; exact (below_size (by repeat (first | (with_reducible first | exact HB.out | apply below_alloc | apply pw_below_drewN | apply below_drew1 | refine below_set ?_ GE313.out) | exact HB.out))) : w.heap.size ≤ gb314)); have n4_ := Aside0.mk ((by rw [hg]; exact (below_size (by repeat (first | (with_reducible first | exact HB.out | apply below_alloc | apply pw_below_drewN | apply below_drew1 | refine below_set ?_ GE313.out) | exact HB.out))) : w.heap.size ≤ gb314)); have n5_ := Aside0.mk ((by rw [hg]; exact Nat.ne_of_lt (blk_lt (g := gb313) (o := .cells #[.int .i64 a0_0, .slice A0_1 l0_1.length c0_1, .string a0_2, .bool a0_3, .int .i8 a0_4, .slice A0_5 l0_5.length c0_5, .int .u8 a0_6] 29 (0, 0)) (bz BK313.out)) : gb313 ≠ gb314)); have n6_ := Aside0.mk ((by rw [hg]; exact Nat.ne_of_gt (blk_lt (g := gb313) (o := .cells #[.int .i64 a0_0, .slice A0_1 l0_1.length c0_1, .string a0_2, .bool a0_3, .int .i8 a0_4, .slice A0_5 l0_5.length c0_5, .int .u8 a0_6] 29 (0, 0)) (bz BK313.out)) : gb314 ≠ gb313)); clear BK313; clear HB; have BK313 := n0_; have HB := n1_; have BK314 := n2_; have GW314 := n3_; have GE314 := n4_; have NB313_314 := n5_; have NB314_313 := n6_; clear n0_ n1_ n2_ n3_ n4_ n5_ n6_; clear hb hbox hg) | ((with_reducible refine gate_callee (f := 7) rfl ?_); refine goesL_ (some 20) rfl rfl Tryd.func7 (by kernel_rfl) rfl #[] rfl ml ?_; (with_reducible refine (archivistlaw13_examples.calls k  true _ A5.out ?sideLd).mono ?_); (case sideLd => exact laid_below HLd.out (by repeat (first | (with_reducible first | exact HB.out | apply below_alloc | apply pw_below_drewN | apply below_drew1 | refine below_set ?_ GE313.out | refine below_set ?_ GE314.out | refine below_set ?_ GE321.out | refine below_set ?_ GE327.out | refine below_set ?_ GE336.out | refine below_set ?_ GE344.out) | exact HB.out))); rintro e w31 ⟨rfl, hb⟩; refine ⟨_, rfl, ?_⟩; have n0_ := Aside0.mk (blk_below (g := gb313) (o := .cells #[.int .i64 a0_0, .slice A0_1 l0_1.length c0_1, .string a0_2, .bool a0_3, .int .i8 a0_4, .slice A0_5 l0_5.length c0_5, .int .u8 a0_6] 29 (0, 0)) (bz BK313.out) hb); have n1_ := Aside0.mk (blk_below (g := gb314) (o := .cells #[.int .i64 a1_0, .slice A1_1 l1_1.length c1_1, .string a1_2, .bool a1_3, .int .i8 a1_4, .slice A1_5 l1_5.length c1_5, .int .u8 a1_6] 29 (0, 0)) (bz BK314.out) hb); have n2_ := Aside0.mk (below_step (by repeat (first | (with_reducible first | exact HB.out | apply below_alloc | apply pw_below_drewN | apply below_drew1 | refine below_set ?_ GE313.out | refine below_set ?_ GE314.out) | exact HB.out)) hb); clear BK313; clear BK314; clear HB; have BK313 := n0_; have BK314 := n1_; have HB := n2_; clear n0_ n1_ n2_; (try clear hb); (try clear hb2); (try clear hk); (try clear hi); have hnb32 := NB313_314.out; have hnc32 := NB314_313.out; have hcz33_0 : w31.cell? ⟨gb313, 0, none⟩ = some (.int .i64 a0_0) := (blk_cell BK313.out 0).trans rfl; have hcz33_1 : w31.cell? ⟨gb313, 1, none⟩ = some (.slice A0_1 l0_1.length c0_1) := (blk_cell BK313.out 1).trans rfl; have hcz33_2 : w31.cell? ⟨gb313, 2, none⟩ = some (.string a0_2) := (blk_cell BK313.out 2).trans rfl; have hcz33_3 : w31.cell? ⟨gb313, 3, none⟩ = some (.bool a0_3) := (blk_cell BK313.out 3).trans rfl; have hcz33_4 : w31.cell? ⟨gb313, 4, none⟩ = some (.int .i8 a0_4) := (blk_cell BK313.out 4).trans rfl; have hcz33_5 : w31.cell? ⟨gb313, 5, none⟩ = some (.slice A0_5 l0_5.length c0_5) := (blk_cell BK313.out 5).trans rfl; have hcz33_6 : w31.cell? ⟨gb313, 6, none⟩ = some (.int .u8 a0_6) := (blk_cell BK313.out 6).trans rfl; have hfz33_0 := blk_frozen BK313.out 0; have hfz33_1 := blk_frozen BK313.out 1; have hfz33_2 := blk_frozen BK313.out 2; have hfz33_3 := blk_frozen BK313.out 3; have hfz33_4 := blk_frozen BK313.out 4; have hfz33_5 := blk_frozen BK313.out 5; have hfz33_6 := blk_frozen BK313.out 6) | ((with_reducible refine gate_callee (f := 8) rfl ?_); refine goesL_ (some 24) rfl rfl Tryd.func8 (by kernel_rfl) rfl #[.agg #[.int .i64 a0_0, .slice A0_1 l0_1.length c0_1, .string a0_2, .bool a0_3, .int .i8 a0_4, .slice A0_5 l0_5.length c0_5, .int .u8 a0_6]] rfl ml ?_; (with_reducible refine (archivistlaw13_Item_item.calls k a0_0 (fun k_ => k_ < w.heap.size) _ _ l0_1 a0_2 a0_3 a0_4 _ _ l0_5 a0_6 t316 t317 t320 _ ?side1 ?side2 ?side3 A7.out).mono ?_); (case side1 => exact Kd.V_mk HC0_1.out (Kd.F_below (Kd.C_F k48_heap HR0_1.out) (by repeat (first | (with_reducible first | exact HB.out | apply below_alloc | apply pw_below_drewN | apply below_drew1 | refine below_set ?_ GE313.out | refine below_set ?_ GE314.out) | exact HB.out)))); (case side2 => repeat (first | exact (Kd.C_below HR0_5.out HB.out) | (with_reducible refine Kd.C_alloc ?_ _) | (with_reducible refine Kd.C_drewN ?_ _) | (with_reducible refine Kd.C_drew ?_))); (case side3 => exact HC0_5.out); rintro e w34 ⟨v318, rfl, ho0, hb⟩; refine ⟨_, rfl, ?_⟩; have n0_ := Aside0.mk (Kd.V_lower (Kd.V_mono (ok' := fun k_ => k_ ≠ gb313 ∧ k_ ≠ gb314) ho0 (fun k_ hk_ => ⟨Or.elim hk_ (fun hs_ => fun e_ => Nat.not_le.2 hs_ (by rw [e_]; exact GW313.out)) (fun hn_ => (Kd.freshB (g := gb313) (o := .cells #[.int .i64 a0_0, .slice A0_1 l0_1.length c0_1, .string a0_2, .bool a0_3, .int .i8 a0_4, .slice A0_5 l0_5.length c0_5, .int .u8 a0_6] 29 (0, 0)) (bz BK313.out) k_ hn_)), Or.elim hk_ (fun hs_ => fun e_ => Nat.not_le.2 hs_ (by rw [e_]; exact GW314.out)) (fun hn_ => (Kd.freshB (g := gb314) (o := .cells #[.int .i64 a1_0, .slice A1_1 l1_1.length c1_1, .string a1_2, .bool a1_3, .int .i8 a1_4, .slice A1_5 l1_5.length c1_5, .int .u8 a1_6] 29 (0, 0)) (bz BK314.out) k_ hn_))⟩)) (below_size (by repeat (first | (with_reducible first | exact HB.out | apply below_alloc | apply pw_below_drewN | apply below_drew1 | refine below_set ?_ GE313.out | refine below_set ?_ GE314.out) | exact HB.out)))); have n1_ := Aside0.mk (blk_below (g := gb313) (o := .cells #[.int .i64 a0_0, .slice A0_1 l0_1.length c0_1, .string a0_2, .bool a0_3, .int .i8 a0_4, .slice A0_5 l0_5.length c0_5, .int .u8 a0_6] 29 (0, 0)) (bz BK313.out) hb); have n2_ := Aside0.mk (blk_below (g := gb314) (o := .cells #[.int .i64 a1_0, .slice A1_1 l1_1.length c1_1, .string a1_2, .bool a1_3, .int .i8 a1_4, .slice A1_5 l1_5.length c1_5, .int .u8 a1_6] 29 (0, 0)) (bz BK314.out) hb); have n3_ := Aside0.mk (below_step (by repeat (first | (with_reducible first | exact HB.out | apply below_alloc | apply pw_below_drewN | apply below_drew1 | refine below_set ?_ GE313.out | refine below_set ?_ GE314.out) | exact HB.out)) hb); clear BK313; clear BK314; clear HB; have HO319 := n0_; have BK313 := n1_; have BK314 := n2_; have HB := n3_; clear n0_ n1_ n2_ n3_; (try clear hb); (try clear hb2); (try clear hk); (try clear hi); (try clear ho0)) | ((with_reducible refine gate_dst (N := 10) rfl ?_); (try (refine gate_guard (by rfl) ?_; dsimp only)); refine box_event ?hg (N := 10) ?hd (cs := #[.int .i64 0, .slice none 0 0, .string (⟨#[]⟩ : ByteArray)]) (t := 25) ?hr ?_; (case hd => rfl); (case hg => rfl); (case hr => first | (go_simp; done) | (go_simp; rfl)); intro gb321 hg w35 hbox hb; have n0_ := Aside0.mk (Kd.V_below (Kd.V_elderB (by (with_reducible repeat (first | apply Kd.V_alloc | apply Kd.V_drewN | apply Kd.V_drew)); exact HO319.out) gb321 (Nat.le_of_eq hg.symm)) hb); have n1_ := Aside0.mk (blk_below (g := gb313) (o := .cells #[.int .i64 a0_0, .slice A0_1 l0_1.length c0_1, .string a0_2, .bool a0_3, .int .i8 a0_4, .slice A0_5 l0_5.length c0_5, .int .u8 a0_6] 29 (0, 0)) (bz BK313.out) hb); have n2_ := Aside0.mk (blk_below (g := gb314) (o := .cells #[.int .i64 a1_0, .slice A1_1 l1_1.length c1_1, .string a1_2, .bool a1_3, .int .i8 a1_4, .slice A1_5 l1_5.length c1_5, .int .u8 a1_6] 29 (0, 0)) (bz BK314.out) hb); have n3_ := Aside0.mk (below_step (by repeat (first | (with_reducible first | exact HB.out | apply below_alloc | apply pw_below_drewN | apply below_drew1 | refine below_set ?_ GE313.out | refine below_set ?_ GE314.out) | exact HB.out)) hb); have n4_ := Aside0.mk (hbox); have n5_ := Aside0.mk ((by rw [hg]; exact (below_size (by repeat (first | (with_reducible first | exact HB.out | apply below_alloc | apply pw_below_drewN | apply below_drew1 | refine below_set ?_ GE313.out | refine below_set ?_ GE314.out) | exact HB.out))) : w.heap.size ≤ gb321)); have n6_ := Aside0.mk ((by rw [hg]; exact (below_size (by repeat (first | (with_reducible first | exact HB.out | apply below_alloc | apply pw_below_drewN | apply below_drew1 | refine below_set ?_ GE313.out | refine below_set ?_ GE314.out) | exact HB.out))) : w.heap.size ≤ gb321)); have n7_ := Aside0.mk ((by rw [hg]; exact Nat.ne_of_lt (blk_lt (g := gb313) (o := .cells #[.int .i64 a0_0, .slice A0_1 l0_1.length c0_1, .string a0_2, .bool a0_3, .int .i8 a0_4, .slice A0_5 l0_5.length c0_5, .int .u8 a0_6] 29 (0, 0)) (bz BK313.out)) : gb313 ≠ gb321)); have n8_ := Aside0.mk ((by rw [hg]; exact Nat.ne_of_gt (blk_lt (g := gb313) (o := .cells #[.int .i64 a0_0, .slice A0_1 l0_1.length c0_1, .string a0_2, .bool a0_3, .int .i8 a0_4, .slice A0_5 l0_5.length c0_5, .int .u8 a0_6] 29 (0, 0)) (bz BK313.out)) : gb321 ≠ gb313)); have n9_ := Aside0.mk ((by rw [hg]; exact Nat.ne_of_lt (blk_lt (g := gb314) (o := .cells #[.int .i64 a1_0, .slice A1_1 l1_1.length c1_1, .string a1_2, .bool a1_3, .int .i8 a1_4, .slice A1_5 l1_5.length c1_5, .int .u8 a1_6] 29 (0, 0)) (bz BK314.out)) : gb314 ≠ gb321)); have n10_ := Aside0.mk ((by rw [hg]; exact Nat.ne_of_gt (blk_lt (g := gb314) (o := .cells #[.int .i64 a1_0, .slice A1_1 l1_1.length c1_1, .string a1_2, .bool a1_3, .int .i8 a1_4, .slice A1_5 l1_5.length c1_5, .int .u8 a1_6] 29 (0, 0)) (bz BK314.out)) : gb321 ≠ gb314)); clear HO319; clear BK313; clear BK314; clear HB; have HO319 := n0_; have BK313 := n1_; have BK314 := n2_; have HB := n3_; have BK321 := n4_; have GW321 := n5_; have GE321 := n6_; have NB313_321 := n7_; have NB321_313 := n8_; have NB314_321 := n9_; have NB321_314 := n10_; clear n0_ n1_ n2_ n3_ n4_ n5_ n6_ n7_ n8_ n9_ n10_; clear hb hbox hg; have hnb36 := NB321_313.out; have hnc36 := NB313_321.out; have hnb37 := NB321_314.out; have hnc37 := NB314_321.out; have hcz38_0 : w35.cell? ⟨gb321, 0, none⟩ = some (.int .i64 0) := (blk_cell BK321.out 0).trans rfl; have hcz38_1 : w35.cell? ⟨gb321, 1, none⟩ = some (.slice none 0 0) := (blk_cell BK321.out 1).trans rfl; have hcz38_2 : w35.cell? ⟨gb321, 2, none⟩ = some (.string (⟨#[]⟩ : ByteArray)) := (blk_cell BK321.out 2).trans rfl; have hfz38_0 := blk_frozen BK321.out 0; have hfz38_1 := blk_frozen BK321.out 1; have hfz38_2 := blk_frozen BK321.out 2; obtain ⟨Ao39, co39, eo39⟩ := Kd.V_slice HO319.out; subst eo39) | ((with_reducible refine gate_store (t := 25) (p := 10) rfl ?_); refine store_event (t := 25) (p := 10) (v := ?vo_w40) (w1 := (((w35.setCell ⟨gb321, 0, none⟩ (.int .i64 t316)).setCell ⟨gb321, 1, none⟩ (.slice Ao39 t317.length co39)).setCell ⟨gb321, 2, none⟩ (.string t320))) ?hg ?ho ?hn ?hr ?_; (case ho => rfl); (case hg => rfl); (case hn => rfl); (case hr => first | (go_simp; done) | (go_simp; rfl)); intro w40 hw; have n0_ : Aside0 (Kd.V k48 48 w40 w.heap.size (fun k_ => k_ ≠ gb313 ∧ k_ ≠ gb314 ∧ k_ ≠ gb321) (.slice Ao39 t317.length co39) t317) := ⟨(by rw [hw]; exact (by (with_reducible repeat (first | apply Kd.V_alloc | apply Kd.V_drewN | apply Kd.V_drew)); exact Kd.V_mono (Kd.V_far (p := ⟨gb321, 2, none⟩) (Kd.V_far (p := ⟨gb321, 1, none⟩) (Kd.V_far (p := ⟨gb321, 0, none⟩) (Kd.V_mono HO319.out (fun k_ hk => (⟨hk, by first | exact hk.2 | grind⟩ : _ ∧ k_ ≠ gb321))) (fun _ hk => hk.2) (.int .i64 t316)) (fun _ hk => hk.2) (.slice Ao39 t317.length co39)) (fun _ hk => hk.2) (.string t320)) (fun _ hk => by first | exact ⟨hk.1.1.1, ⟨hk.1.1.2, hk.1.2⟩⟩ | grind)))⟩; have n1_ : Aside0 (w40.heap[gb313]? = some (.cells #[.int .i64 a0_0, .slice A0_1 l0_1.length c0_1, .string a0_2, .bool a0_3, .int .i8 a0_4, .slice A0_5 l0_5.length c0_5, .int .u8 a0_6] 29 (0, 0))) := ⟨(by rw [hw]; exact (by (with_reducible repeat (first | refine blk_drewN ?_ _ | refine blk_drew ?_ | refine blk_alloc ?_ _)); refine blk_far ?_ NB313_321.out _; (with_reducible repeat (first | refine blk_drewN ?_ _ | refine blk_drew ?_ | refine blk_alloc ?_ _)); refine blk_far ?_ NB313_321.out _; (with_reducible repeat (first | refine blk_drewN ?_ _ | refine blk_drew ?_ | refine blk_alloc ?_ _)); refine blk_far ?_ NB313_321.out _; (with_reducible repeat (first | refine blk_drewN ?_ _ | refine blk_drew ?_ | refine blk_alloc ?_ _)); exact BK313.out))⟩; have n2_ : Aside0 (w40.heap[gb314]? = some (.cells #[.int .i64 a1_0, .slice A1_1 l1_1.length c1_1, .string a1_2, .bool a1_3, .int .i8 a1_4, .slice A1_5 l1_5.length c1_5, .int .u8 a1_6] 29 (0, 0))) := ⟨(by rw [hw]; exact (by (with_reducible repeat (first | refine blk_drewN ?_ _ | refine blk_drew ?_ | refine blk_alloc ?_ _)); refine blk_far ?_ NB314_321.out _; (with_reducible repeat (first | refine blk_drewN ?_ _ | refine blk_drew ?_ | refine blk_alloc ?_ _)); refine blk_far ?_ NB314_321.out _; (with_reducible repeat (first | refine blk_drewN ?_ _ | refine blk_drew ?_ | refine blk_alloc ?_ _)); refine blk_far ?_ NB314_321.out _; (with_reducible repeat (first | refine blk_drewN ?_ _ | refine blk_drew ?_ | refine blk_alloc ?_ _)); exact BK314.out))⟩; have n3_ : Aside0 (w40.heap[gb321]? = some (.cells #[.int .i64 t316, .slice Ao39 t317.length co39, .string t320] 25 (0, 0))) := ⟨(by rw [hw]; exact (by (with_reducible repeat (first | refine blk_drewN ?_ _ | refine blk_drew ?_ | refine blk_alloc ?_ _)); refine blk_put (cs := #[.int .i64 t316, .slice Ao39 t317.length co39, .string (⟨#[]⟩ : ByteArray)]) ?_ 2 _ rfl; (with_reducible repeat (first | refine blk_drewN ?_ _ | refine blk_drew ?_ | refine blk_alloc ?_ _)); refine blk_put (cs := #[.int .i64 t316, .slice none 0 0, .string (⟨#[]⟩ : ByteArray)]) ?_ 1 _ rfl; (with_reducible repeat (first | refine blk_drewN ?_ _ | refine blk_drew ?_ | refine blk_alloc ?_ _)); refine blk_put (cs := #[.int .i64 0, .slice none 0 0, .string (⟨#[]⟩ : ByteArray)]) ?_ 0 _ rfl; (with_reducible repeat (first | refine blk_drewN ?_ _ | refine blk_drew ?_ | refine blk_alloc ?_ _)); exact BK321.out))⟩; have n4_ : Aside0 (Below w.heap.size w w40) := ⟨(by rw [hw]; exact (by repeat (first | (with_reducible first | exact HB.out | apply below_alloc | apply pw_below_drewN | apply below_drew1 | refine below_set ?_ GE313.out | refine below_set ?_ GE314.out | refine below_set ?_ GE321.out) | exact HB.out)))⟩; clear hw; clear HO319; clear BK313; clear BK314; clear BK321; clear HB; have HO319 := n0_; have BK313 := n1_; have BK314 := n2_; have BK321 := n3_; have HB := n4_; clear n0_ n1_ n2_ n3_ n4_; have hcz41_0 : w40.cell? ⟨gb314, 0, none⟩ = some (.int .i64 a1_0) := (blk_cell BK314.out 0).trans rfl; have hcz41_1 : w40.cell? ⟨gb314, 1, none⟩ = some (.slice A1_1 l1_1.length c1_1) := (blk_cell BK314.out 1).trans rfl; have hcz41_2 : w40.cell? ⟨gb314, 2, none⟩ = some (.string a1_2) := (blk_cell BK314.out 2).trans rfl; have hcz41_3 : w40.cell? ⟨gb314, 3, none⟩ = some (.bool a1_3) := (blk_cell BK314.out 3).trans rfl; have hcz41_4 : w40.cell? ⟨gb314, 4, none⟩ = some (.int .i8 a1_4) := (blk_cell BK314.out 4).trans rfl; have hcz41_5 : w40.cell? ⟨gb314, 5, none⟩ = some (.slice A1_5 l1_5.length c1_5) := (blk_cell BK314.out 5).trans rfl; have hcz41_6 : w40.cell? ⟨gb314, 6, none⟩ = some (.int .u8 a1_6) := (blk_cell BK314.out 6).trans rfl; have hfz41_0 := blk_frozen BK314.out 0; have hfz41_1 := blk_frozen BK314.out 1; have hfz41_2 := blk_frozen BK314.out 2; have hfz41_3 := blk_frozen BK314.out 3; have hfz41_4 := blk_frozen BK314.out 4; have hfz41_5 := blk_frozen BK314.out 5; have hfz41_6 := blk_frozen BK314.out 6) | ((with_reducible refine gate_callee (f := 8) rfl ?_); refine goesL_ (some 26) rfl rfl Tryd.func8 (by kernel_rfl) rfl #[.agg #[.int .i64 a1_0, .slice A1_1 l1_1.length c1_1, .string a1_2, .bool a1_3, .int .i8 a1_4, .slice A1_5 l1_5.length c1_5, .int .u8 a1_6]] rfl ml ?_; (with_reducible refine (archivistlaw13_Item_item.calls k a1_0 (fun k_ => k_ < w.heap.size) _ _ l1_1 a1_2 a1_3 a1_4 _ _ l1_5 a1_6 t322 t323 t326 _ ?side1 ?side2 ?side3 A8.out).mono ?_); (case side1 => exact Kd.V_mk HC1_1.out (Kd.F_below (Kd.C_F k48_heap HR1_1.out) (by repeat (first | (with_reducible first | exact HB.out | apply below_alloc | apply pw_below_drewN | apply below_drew1 | refine below_set ?_ GE313.out | refine below_set ?_ GE314.out | refine below_set ?_ GE321.out) | exact HB.out)))); (case side2 => repeat (first | exact (Kd.C_below HR1_5.out HB.out) | (with_reducible refine Kd.C_alloc ?_ _) | (with_reducible refine Kd.C_drewN ?_ _) | (with_reducible refine Kd.C_drew ?_))); (case side3 => exact HC1_5.out); rintro e w42 ⟨v324, rfl, ho0, hb⟩; refine ⟨_, rfl, ?_⟩; have n0_ := Aside0.mk (Kd.V_below (by (with_reducible repeat (first | apply Kd.V_alloc | apply Kd.V_drewN | apply Kd.V_drew)); exact HO319.out) hb); have n1_ := Aside0.mk (Kd.V_lower (Kd.V_mono (ok' := fun k_ => k_ ≠ gb313 ∧ k_ ≠ gb314 ∧ k_ ≠ gb321) ho0 (fun k_ hk_ => ⟨Or.elim hk_ (fun hs_ => fun e_ => Nat.not_le.2 hs_ (by rw [e_]; exact GW313.out)) (fun hn_ => (Kd.freshB (g := gb313) (o := .cells #[.int .i64 a0_0, .slice A0_1 l0_1.length c0_1, .string a0_2, .bool a0_3, .int .i8 a0_4, .slice A0_5 l0_5.length c0_5, .int .u8 a0_6] 29 (0, 0)) (bz BK313.out) k_ hn_)), Or.elim hk_ (fun hs_ => fun e_ => Nat.not_le.2 hs_ (by rw [e_]; exact GW314.out)) (fun hn_ => (Kd.freshB (g := gb314) (o := .cells #[.int .i64 a1_0, .slice A1_1 l1_1.length c1_1, .string a1_2, .bool a1_3, .int .i8 a1_4, .slice A1_5 l1_5.length c1_5, .int .u8 a1_6] 29 (0, 0)) (bz BK314.out) k_ hn_)), Or.elim hk_ (fun hs_ => fun e_ => Nat.not_le.2 hs_ (by rw [e_]; exact GW321.out)) (fun hn_ => (Kd.freshB (g := gb321) (o := .cells #[.int .i64 t316, .slice Ao39 t317.length co39, .string t320] 25 (0, 0)) (bz BK321.out) k_ hn_))⟩)) (below_size (by repeat (first | (with_reducible first | exact HB.out | apply below_alloc | apply pw_below_drewN | apply below_drew1 | refine below_set ?_ GE313.out | refine below_set ?_ GE314.out | refine below_set ?_ GE321.out) | exact HB.out)))); have n2_ := Aside0.mk (blk_below (g := gb313) (o := .cells #[.int .i64 a0_0, .slice A0_1 l0_1.length c0_1, .string a0_2, .bool a0_3, .int .i8 a0_4, .slice A0_5 l0_5.length c0_5, .int .u8 a0_6] 29 (0, 0)) (bz BK313.out) hb); have n3_ := Aside0.mk (blk_below (g := gb314) (o := .cells #[.int .i64 a1_0, .slice A1_1 l1_1.length c1_1, .string a1_2, .bool a1_3, .int .i8 a1_4, .slice A1_5 l1_5.length c1_5, .int .u8 a1_6] 29 (0, 0)) (bz BK314.out) hb); have n4_ := Aside0.mk (blk_below (g := gb321) (o := .cells #[.int .i64 t316, .slice Ao39 t317.length co39, .string t320] 25 (0, 0)) (bz BK321.out) hb); have n5_ := Aside0.mk (below_step (by repeat (first | (with_reducible first | exact HB.out | apply below_alloc | apply pw_below_drewN | apply below_drew1 | refine below_set ?_ GE313.out | refine below_set ?_ GE314.out | refine below_set ?_ GE321.out) | exact HB.out)) hb); clear HO319; clear BK313; clear BK314; clear BK321; clear HB; have HO319 := n0_; have HO325 := n1_; have BK313 := n2_; have BK314 := n3_; have BK321 := n4_; have HB := n5_; clear n0_ n1_ n2_ n3_ n4_ n5_; (try clear hb); (try clear hb2); (try clear hk); (try clear hi); (try clear ho0)) | ((with_reducible refine gate_dst (N := 11) rfl ?_); (try (refine gate_guard (by rfl) ?_; dsimp only)); refine box_event ?hg (N := 11) ?hd (cs := #[.int .i64 0, .slice none 0 0, .string (⟨#[]⟩ : ByteArray)]) (t := 25) ?hr ?_; (case hd => rfl); (case hg => rfl); (case hr => first | (go_simp; done) | (go_simp; rfl)); intro gb327 hg w43 hbox hb; have n0_ := Aside0.mk (Kd.V_below (Kd.V_elderB (by (with_reducible repeat (first | apply Kd.V_alloc | apply Kd.V_drewN | apply Kd.V_drew)); exact HO319.out) gb327 (Nat.le_of_eq hg.symm)) hb); have n1_ := Aside0.mk (Kd.V_below (Kd.V_elderB (by (with_reducible repeat (first | apply Kd.V_alloc | apply Kd.V_drewN | apply Kd.V_drew)); exact HO325.out) gb327 (Nat.le_of_eq hg.symm)) hb); have n2_ := Aside0.mk (blk_below (g := gb313) (o := .cells #[.int .i64 a0_0, .slice A0_1 l0_1.length c0_1, .string a0_2, .bool a0_3, .int .i8 a0_4, .slice A0_5 l0_5.length c0_5, .int .u8 a0_6] 29 (0, 0)) (bz BK313.out) hb); have n3_ := Aside0.mk (blk_below (g := gb314) (o := .cells #[.int .i64 a1_0, .slice A1_1 l1_1.length c1_1, .string a1_2, .bool a1_3, .int .i8 a1_4, .slice A1_5 l1_5.length c1_5, .int .u8 a1_6] 29 (0, 0)) (bz BK314.out) hb); have n4_ := Aside0.mk (blk_below (g := gb321) (o := .cells #[.int .i64 t316, .slice Ao39 t317.length co39, .string t320] 25 (0, 0)) (bz BK321.out) hb); have n5_ := Aside0.mk (below_step (by repeat (first | (with_reducible first | exact HB.out | apply below_alloc | apply pw_below_drewN | apply below_drew1 | refine below_set ?_ GE313.out | refine below_set ?_ GE314.out | refine below_set ?_ GE321.out) | exact HB.out)) hb); have n6_ := Aside0.mk (hbox); have n7_ := Aside0.mk ((by rw [hg]; exact (below_size (by repeat (first | (with_reducible first | exact HB.out | apply below_alloc | apply pw_below_drewN | apply below_drew1 | refine below_set ?_ GE313.out | refine below_set ?_ GE314.out | refine below_set ?_ GE321.out) | exact HB.out))) : w.heap.size ≤ gb327)); have n8_ := Aside0.mk ((by rw [hg]; exact (below_size (by repeat (first | (with_reducible first | exact HB.out | apply below_alloc | apply pw_below_drewN | apply below_drew1 | refine below_set ?_ GE313.out | refine below_set ?_ GE314.out | refine below_set ?_ GE321.out) | exact HB.out))) : w.heap.size ≤ gb327)); have n9_ := Aside0.mk ((by rw [hg]; exact Nat.ne_of_lt (blk_lt (g := gb313) (o := .cells #[.int .i64 a0_0, .slice A0_1 l0_1.length c0_1, .string a0_2, .bool a0_3, .int .i8 a0_4, .slice A0_5 l0_5.length c0_5, .int .u8 a0_6] 29 (0, 0)) (bz BK313.out)) : gb313 ≠ gb327)); have n10_ := Aside0.mk ((by rw [hg]; exact Nat.ne_of_gt (blk_lt (g := gb313) (o := .cells #[.int .i64 a0_0, .slice A0_1 l0_1.length c0_1, .string a0_2, .bool a0_3, .int .i8 a0_4, .slice A0_5 l0_5.length c0_5, .int .u8 a0_6] 29 (0, 0)) (bz BK313.out)) : gb327 ≠ gb313)); have n11_ := Aside0.mk ((by rw [hg]; exact Nat.ne_of_lt (blk_lt (g := gb314) (o := .cells #[.int .i64 a1_0, .slice A1_1 l1_1.length c1_1, .string a1_2, .bool a1_3, .int .i8 a1_4, .slice A1_5 l1_5.length c1_5, .int .u8 a1_6] 29 (0, 0)) (bz BK314.out)) : gb314 ≠ gb327)); have n12_ := Aside0.mk ((by rw [hg]; exact Nat.ne_of_gt (blk_lt (g := gb314) (o := .cells #[.int .i64 a1_0, .slice A1_1 l1_1.length c1_1, .string a1_2, .bool a1_3, .int .i8 a1_4, .slice A1_5 l1_5.length c1_5, .int .u8 a1_6] 29 (0, 0)) (bz BK314.out)) : gb327 ≠ gb314)); have n13_ := Aside0.mk ((by rw [hg]; exact Nat.ne_of_lt (blk_lt (g := gb321) (o := .cells #[.int .i64 t316, .slice Ao39 t317.length co39, .string t320] 25 (0, 0)) (bz BK321.out)) : gb321 ≠ gb327)); have n14_ := Aside0.mk ((by rw [hg]; exact Nat.ne_of_gt (blk_lt (g := gb321) (o := .cells #[.int .i64 t316, .slice Ao39 t317.length co39, .string t320] 25 (0, 0)) (bz BK321.out)) : gb327 ≠ gb321)); clear HO319; clear HO325; clear BK313; clear BK314; clear BK321; clear HB; have HO319 := n0_; have HO325 := n1_; have BK313 := n2_; have BK314 := n3_; have BK321 := n4_; have HB := n5_; have BK327 := n6_; have GW327 := n7_; have GE327 := n8_; have NB313_327 := n9_; have NB327_313 := n10_; have NB314_327 := n11_; have NB327_314 := n12_; have NB321_327 := n13_; have NB327_321 := n14_; clear n0_ n1_ n2_ n3_ n4_ n5_ n6_ n7_ n8_ n9_ n10_ n11_ n12_ n13_ n14_; clear hb hbox hg; have hnb44 := NB327_313.out; have hnc44 := NB313_327.out; have hnb45 := NB327_314.out; have hnc45 := NB314_327.out; have hnb46 := NB327_321.out; have hnc46 := NB321_327.out; have hcz47_0 : w43.cell? ⟨gb327, 0, none⟩ = some (.int .i64 0) := (blk_cell BK327.out 0).trans rfl; have hcz47_1 : w43.cell? ⟨gb327, 1, none⟩ = some (.slice none 0 0) := (blk_cell BK327.out 1).trans rfl; have hcz47_2 : w43.cell? ⟨gb327, 2, none⟩ = some (.string (⟨#[]⟩ : ByteArray)) := (blk_cell BK327.out 2).trans rfl; have hfz47_0 := blk_frozen BK327.out 0; have hfz47_1 := blk_frozen BK327.out 1; have hfz47_2 := blk_frozen BK327.out 2; obtain ⟨Ao48, co48, eo48⟩ := Kd.V_slice HO325.out; subst eo48; have hcz49_0 : w43.cell? ⟨gb321, 0, none⟩ = some (.int .i64 t316) := (blk_cell BK321.out 0).trans rfl; have hcz49_1 : w43.cell? ⟨gb321, 1, none⟩ = some (.slice Ao39 t317.length co39) := (blk_cell BK321.out 1).trans rfl; have hcz49_2 : w43.cell? ⟨gb321, 2, none⟩ = some (.string t320) := (blk_cell BK321.out 2).trans rfl; have hfz49_0 := blk_frozen BK321.out 0; have hfz49_1 := blk_frozen BK321.out 1; have hfz49_2 := blk_frozen BK321.out 2) | ((with_reducible refine gate_callee (f := 9) rfl ?_); refine goesL_ (some 28) rfl rfl Tryd.func9 (by kernel_rfl) rfl #[.agg #[.int .i64 t316, .slice Ao39 t317.length co39, .string t320]] rfl ml ?_; (with_reducible refine (entry_Put.calls k t316 _ _ t317 t320 t328 _ ?side1 ?side2 A9.out ?sideLd).mono ?_); (case sideLd => exact laid_below HLd.out (by repeat (first | (with_reducible first | exact HB.out | apply below_alloc | apply pw_below_drewN | apply below_drew1 | refine below_set ?_ GE313.out | refine below_set ?_ GE314.out | refine below_set ?_ GE321.out | refine below_set ?_ GE327.out | refine below_set ?_ GE336.out | refine below_set ?_ GE344.out) | exact HB.out))); (case side1 => refine (Kd.V_reads' (e := 48) (base := w.heap.size) (ok := fun k_ => ((k_ ≠ gb313 ∧ (k_ ≠ gb314 ∧ k_ ≠ gb321)) ∧ k_ ≠ gb327)) (n := t317.length) (c := co39) ?_).2.2; exact (by (with_reducible repeat (first | apply Kd.V_alloc | apply Kd.V_drewN | apply Kd.V_drew)); exact (Kd.V_mono (Kd.V_far (p := ⟨gb327, 2, none⟩) (Kd.V_far (p := ⟨gb327, 1, none⟩) (Kd.V_far (p := ⟨gb327, 0, none⟩) (Kd.V_mono HO319.out (fun k_ hk => (⟨hk, by first | exact hk.2 | grind⟩ : _ ∧ k_ ≠ gb327))) (fun _ hk => hk.2) (.int .i64 t322)) (fun _ hk => hk.2) (.slice Ao48 t323.length co48)) (fun _ hk => hk.2) (.string t326)) (fun _ h_ => h_.1)))); (case side2 => exact (Kd.V_reads' HO319.out).2.1); rintro e w50 ⟨rfl, hb⟩; refine ⟨_, rfl, ?_⟩; have n0_ := Aside0.mk (Kd.V_below (by (with_reducible repeat (first | apply Kd.V_alloc | apply Kd.V_drewN | apply Kd.V_drew)); exact (Kd.V_mono (Kd.V_far (p := ⟨gb327, 2, none⟩) (Kd.V_far (p := ⟨gb327, 1, none⟩) (Kd.V_far (p := ⟨gb327, 0, none⟩) (Kd.V_mono HO319.out (fun k_ hk => (⟨hk, by first | exact hk.2 | grind⟩ : _ ∧ k_ ≠ gb327))) (fun _ hk => hk.2) (.int .i64 t322)) (fun _ hk => hk.2) (.slice Ao48 t323.length co48)) (fun _ hk => hk.2) (.string t326)) (fun _ h_ => h_.1))) hb); have n1_ := Aside0.mk (Kd.V_below (by (with_reducible repeat (first | apply Kd.V_alloc | apply Kd.V_drewN | apply Kd.V_drew)); exact (Kd.V_mono (Kd.V_far (p := ⟨gb327, 2, none⟩) (Kd.V_far (p := ⟨gb327, 1, none⟩) (Kd.V_far (p := ⟨gb327, 0, none⟩) (Kd.V_mono HO325.out (fun k_ hk => (⟨hk, by first | exact hk.2 | grind⟩ : _ ∧ k_ ≠ gb327))) (fun _ hk => hk.2) (.int .i64 t322)) (fun _ hk => hk.2) (.slice Ao48 t323.length co48)) (fun _ hk => hk.2) (.string t326)) (fun _ h_ => h_.1))) hb); have n2_ := Aside0.mk (blk_below (g := gb313) (o := .cells #[.int .i64 a0_0, .slice A0_1 l0_1.length c0_1, .string a0_2, .bool a0_3, .int .i8 a0_4, .slice A0_5 l0_5.length c0_5, .int .u8 a0_6] 29 (0, 0)) (by (with_reducible repeat (first | refine blk_drewN ?_ _ | refine blk_drew ?_ | refine blk_alloc ?_ _)); refine blk_far ?_ NB313_327.out _; (with_reducible repeat (first | refine blk_drewN ?_ _ | refine blk_drew ?_ | refine blk_alloc ?_ _)); refine blk_far ?_ NB313_327.out _; (with_reducible repeat (first | refine blk_drewN ?_ _ | refine blk_drew ?_ | refine blk_alloc ?_ _)); refine blk_far ?_ NB313_327.out _; (with_reducible repeat (first | refine blk_drewN ?_ _ | refine blk_drew ?_ | refine blk_alloc ?_ _)); exact BK313.out) hb); have n3_ := Aside0.mk (blk_below (g := gb314) (o := .cells #[.int .i64 a1_0, .slice A1_1 l1_1.length c1_1, .string a1_2, .bool a1_3, .int .i8 a1_4, .slice A1_5 l1_5.length c1_5, .int .u8 a1_6] 29 (0, 0)) (by (with_reducible repeat (first | refine blk_drewN ?_ _ | refine blk_drew ?_ | refine blk_alloc ?_ _)); refine blk_far ?_ NB314_327.out _; (with_reducible repeat (first | refine blk_drewN ?_ _ | refine blk_drew ?_ | refine blk_alloc ?_ _)); refine blk_far ?_ NB314_327.out _; (with_reducible repeat (first | refine blk_drewN ?_ _ | refine blk_drew ?_ | refine blk_alloc ?_ _)); refine blk_far ?_ NB314_327.out _; (with_reducible repeat (first | refine blk_drewN ?_ _ | refine blk_drew ?_ | refine blk_alloc ?_ _)); exact BK314.out) hb); have n4_ := Aside0.mk (blk_below (g := gb321) (o := .cells #[.int .i64 t316, .slice Ao39 t317.length co39, .string t320] 25 (0, 0)) (by (with_reducible repeat (first | refine blk_drewN ?_ _ | refine blk_drew ?_ | refine blk_alloc ?_ _)); refine blk_far ?_ NB321_327.out _; (with_reducible repeat (first | refine blk_drewN ?_ _ | refine blk_drew ?_ | refine blk_alloc ?_ _)); refine blk_far ?_ NB321_327.out _; (with_reducible repeat (first | refine blk_drewN ?_ _ | refine blk_drew ?_ | refine blk_alloc ?_ _)); refine blk_far ?_ NB321_327.out _; (with_reducible repeat (first | refine blk_drewN ?_ _ | refine blk_drew ?_ | refine blk_alloc ?_ _)); exact BK321.out) hb); have n5_ := Aside0.mk (blk_below (g := gb327) (o := .cells #[.int .i64 t322, .slice Ao48 t323.length co48, .string t326] 25 (0, 0)) (by (with_reducible repeat (first | refine blk_drewN ?_ _ | refine blk_drew ?_ | refine blk_alloc ?_ _)); refine blk_put (cs := #[.int .i64 t322, .slice Ao48 t323.length co48, .string (⟨#[]⟩ : ByteArray)]) ?_ 2 _ rfl; (with_reducible repeat (first | refine blk_drewN ?_ _ | refine blk_drew ?_ | refine blk_alloc ?_ _)); refine blk_put (cs := #[.int .i64 t322, .slice none 0 0, .string (⟨#[]⟩ : ByteArray)]) ?_ 1 _ rfl; (with_reducible repeat (first | refine blk_drewN ?_ _ | refine blk_drew ?_ | refine blk_alloc ?_ _)); refine blk_put (cs := #[.int .i64 0, .slice none 0 0, .string (⟨#[]⟩ : ByteArray)]) ?_ 0 _ rfl; (with_reducible repeat (first | refine blk_drewN ?_ _ | refine blk_drew ?_ | refine blk_alloc ?_ _)); exact BK327.out) hb); have n6_ := Aside0.mk (below_step (by repeat (first | (with_reducible first | exact HB.out | apply below_alloc | apply pw_below_drewN | apply below_drew1 | refine below_set ?_ GE313.out | refine below_set ?_ GE314.out | refine below_set ?_ GE321.out | refine below_set ?_ GE327.out) | exact HB.out)) hb); clear HO319; clear HO325; clear BK313; clear BK314; clear BK321; clear BK327; clear HB; have HO319 := n0_; have HO325 := n1_; have BK313 := n2_; have BK314 := n3_; have BK321 := n4_; have BK327 := n5_; have HB := n6_; clear n0_ n1_ n2_ n3_ n4_ n5_ n6_; (try clear hb); (try clear hb2); (try clear hk); (try clear hi)) | ((with_reducible refine gate_callee (f := 10) rfl ?_); refine goesL_ (some 35) rfl rfl Tryd.func10 (by kernel_rfl) rfl #[.string (t328 ++ a2)] rfl ml ?_; (with_reducible refine (entry_Parse.calls k (t328 ++ a2) t329 t330 t333 t334 t335 _ A12.out ?sideLd).mono ?_); (case sideLd => exact laid_below HLd.out (by repeat (first | (with_reducible first | exact HB.out | apply below_alloc | apply pw_below_drewN | apply below_drew1 | refine below_set ?_ GE313.out | refine below_set ?_ GE314.out | refine below_set ?_ GE321.out | refine below_set ?_ GE327.out | refine below_set ?_ GE336.out | refine below_set ?_ GE344.out) | exact HB.out))); rintro e w51 ⟨v331, rfl, ho0, hb⟩; refine ⟨_, rfl, ?_⟩; have n0_ := Aside0.mk (Kd.V_elder' (by (with_reducible repeat (first | apply Kd.V_alloc | apply Kd.V_drewN | apply Kd.V_drew)); exact HO319.out) (Kd.R_base ho0) hb); have n1_ := Aside0.mk (Kd.V_elder' (by (with_reducible repeat (first | apply Kd.V_alloc | apply Kd.V_drewN | apply Kd.V_drew)); exact HO325.out) (Kd.R_base ho0) hb); have n2_ := Aside0.mk (Kd.R_lower ho0 (below_size (by repeat (first | (with_reducible first | exact HB.out | apply below_alloc | apply pw_below_drewN | apply below_drew1 | refine below_set ?_ GE313.out | refine below_set ?_ GE314.out | refine below_set ?_ GE321.out | refine below_set ?_ GE327.out) | exact HB.out)))); have n3_ := Aside0.mk (blk_below (g := gb313) (o := .cells #[.int .i64 a0_0, .slice A0_1 l0_1.length c0_1, .string a0_2, .bool a0_3, .int .i8 a0_4, .slice A0_5 l0_5.length c0_5, .int .u8 a0_6] 29 (0, 0)) (bz BK313.out) hb); have n4_ := Aside0.mk (blk_below (g := gb314) (o := .cells #[.int .i64 a1_0, .slice A1_1 l1_1.length c1_1, .string a1_2, .bool a1_3, .int .i8 a1_4, .slice A1_5 l1_5.length c1_5, .int .u8 a1_6] 29 (0, 0)) (bz BK314.out) hb); have n5_ := Aside0.mk (blk_below (g := gb321) (o := .cells #[.int .i64 t316, .slice Ao39 t317.length co39, .string t320] 25 (0, 0)) (bz BK321.out) hb); have n6_ := Aside0.mk (blk_below (g := gb327) (o := .cells #[.int .i64 t322, .slice Ao48 t323.length co48, .string t326] 25 (0, 0)) (bz BK327.out) hb); have n7_ := Aside0.mk (below_step (by repeat (first | (with_reducible first | exact HB.out | apply below_alloc | apply pw_below_drewN | apply below_drew1 | refine below_set ?_ GE313.out | refine below_set ?_ GE314.out | refine below_set ?_ GE321.out | refine below_set ?_ GE327.out) | exact HB.out)) hb); clear HO319; clear HO325; clear BK313; clear BK314; clear BK321; clear BK327; clear HB; have HO319 := n0_; have HO325 := n1_; have HO332 := n2_; have BK313 := n3_; have BK314 := n4_; have BK321 := n5_; have BK327 := n6_; have HB := n7_; clear n0_ n1_ n2_ n3_ n4_ n5_ n6_ n7_; (try clear hb); (try clear hb2); (try clear hk); (try clear hi); (try clear ho0)) | ((with_reducible refine gate_dst (N := 13) rfl ?_); (try (refine gate_guard (by rfl) ?_; dsimp only)); refine box_event ?hg (N := 13) ?hd (cs := #[.int .i64 0, .slice none 0 0, .string (⟨#[]⟩ : ByteArray)]) (t := 25) ?hr ?_; (case hd => rfl); (case hg => rfl); (case hr => first | (go_simp; done) | (go_simp; rfl)); intro gb336 hg w52 hbox hb; have n0_ := Aside0.mk (Kd.V_below (Kd.V_elderB (by (with_reducible repeat (first | apply Kd.V_alloc | apply Kd.V_drewN | apply Kd.V_drew)); exact HO319.out) gb336 (Nat.le_of_eq hg.symm)) hb); have n1_ := Aside0.mk (Kd.V_below (Kd.V_elderB (by (with_reducible repeat (first | apply Kd.V_alloc | apply Kd.V_drewN | apply Kd.V_drew)); exact HO325.out) gb336 (Nat.le_of_eq hg.symm)) hb); have n2_ := Aside0.mk (Kd.R_below (rz HO332.out) hb); have n3_ := Aside0.mk (blk_below (g := gb313) (o := .cells #[.int .i64 a0_0, .slice A0_1 l0_1.length c0_1, .string a0_2, .bool a0_3, .int .i8 a0_4, .slice A0_5 l0_5.length c0_5, .int .u8 a0_6] 29 (0, 0)) (bz BK313.out) hb); have n4_ := Aside0.mk (blk_below (g := gb314) (o := .cells #[.int .i64 a1_0, .slice A1_1 l1_1.length c1_1, .string a1_2, .bool a1_3, .int .i8 a1_4, .slice A1_5 l1_5.length c1_5, .int .u8 a1_6] 29 (0, 0)) (bz BK314.out) hb); have n5_ := Aside0.mk (blk_below (g := gb321) (o := .cells #[.int .i64 t316, .slice Ao39 t317.length co39, .string t320] 25 (0, 0)) (bz BK321.out) hb); have n6_ := Aside0.mk (blk_below (g := gb327) (o := .cells #[.int .i64 t322, .slice Ao48 t323.length co48, .string t326] 25 (0, 0)) (bz BK327.out) hb); have n7_ := Aside0.mk (below_step (by repeat (first | (with_reducible first | exact HB.out | apply below_alloc | apply pw_below_drewN | apply below_drew1 | refine below_set ?_ GE313.out | refine below_set ?_ GE314.out | refine below_set ?_ GE321.out | refine below_set ?_ GE327.out) | exact HB.out)) hb); have n8_ := Aside0.mk (hbox); have n9_ := Aside0.mk ((by rw [hg]; exact (below_size (by repeat (first | (with_reducible first | exact HB.out | apply below_alloc | apply pw_below_drewN | apply below_drew1 | refine below_set ?_ GE313.out | refine below_set ?_ GE314.out | refine below_set ?_ GE321.out | refine below_set ?_ GE327.out) | exact HB.out))) : w.heap.size ≤ gb336)); have n10_ := Aside0.mk ((by rw [hg]; exact (below_size (by repeat (first | (with_reducible first | exact HB.out | apply below_alloc | apply pw_below_drewN | apply below_drew1 | refine below_set ?_ GE313.out | refine below_set ?_ GE314.out | refine below_set ?_ GE321.out | refine below_set ?_ GE327.out) | exact HB.out))) : w.heap.size ≤ gb336)); have n11_ := Aside0.mk ((by rw [hg]; exact Nat.ne_of_lt (blk_lt (g := gb313) (o := .cells #[.int .i64 a0_0, .slice A0_1 l0_1.length c0_1, .string a0_2, .bool a0_3, .int .i8 a0_4, .slice A0_5 l0_5.length c0_5, .int .u8 a0_6] 29 (0, 0)) (bz BK313.out)) : gb313 ≠ gb336)); have n12_ := Aside0.mk ((by rw [hg]; exact Nat.ne_of_gt (blk_lt (g := gb313) (o := .cells #[.int .i64 a0_0, .slice A0_1 l0_1.length c0_1, .string a0_2, .bool a0_3, .int .i8 a0_4, .slice A0_5 l0_5.length c0_5, .int .u8 a0_6] 29 (0, 0)) (bz BK313.out)) : gb336 ≠ gb313)); have n13_ := Aside0.mk ((by rw [hg]; exact Nat.ne_of_lt (blk_lt (g := gb314) (o := .cells #[.int .i64 a1_0, .slice A1_1 l1_1.length c1_1, .string a1_2, .bool a1_3, .int .i8 a1_4, .slice A1_5 l1_5.length c1_5, .int .u8 a1_6] 29 (0, 0)) (bz BK314.out)) : gb314 ≠ gb336)); have n14_ := Aside0.mk ((by rw [hg]; exact Nat.ne_of_gt (blk_lt (g := gb314) (o := .cells #[.int .i64 a1_0, .slice A1_1 l1_1.length c1_1, .string a1_2, .bool a1_3, .int .i8 a1_4, .slice A1_5 l1_5.length c1_5, .int .u8 a1_6] 29 (0, 0)) (bz BK314.out)) : gb336 ≠ gb314)); have n15_ := Aside0.mk ((by rw [hg]; exact Nat.ne_of_lt (blk_lt (g := gb321) (o := .cells #[.int .i64 t316, .slice Ao39 t317.length co39, .string t320] 25 (0, 0)) (bz BK321.out)) : gb321 ≠ gb336)); have n16_ := Aside0.mk ((by rw [hg]; exact Nat.ne_of_gt (blk_lt (g := gb321) (o := .cells #[.int .i64 t316, .slice Ao39 t317.length co39, .string t320] 25 (0, 0)) (bz BK321.out)) : gb336 ≠ gb321)); have n17_ := Aside0.mk ((by rw [hg]; exact Nat.ne_of_lt (blk_lt (g := gb327) (o := .cells #[.int .i64 t322, .slice Ao48 t323.length co48, .string t326] 25 (0, 0)) (bz BK327.out)) : gb327 ≠ gb336)); have n18_ := Aside0.mk ((by rw [hg]; exact Nat.ne_of_gt (blk_lt (g := gb327) (o := .cells #[.int .i64 t322, .slice Ao48 t323.length co48, .string t326] 25 (0, 0)) (bz BK327.out)) : gb336 ≠ gb327)); clear HO319; clear HO325; clear HO332; clear BK313; clear BK314; clear BK321; clear BK327; clear HB; have HO319 := n0_; have HO325 := n1_; have HO332 := n2_; have BK313 := n3_; have BK314 := n4_; have BK321 := n5_; have BK327 := n6_; have HB := n7_; have BK336 := n8_; have GW336 := n9_; have GE336 := n10_; have NB313_336 := n11_; have NB336_313 := n12_; have NB314_336 := n13_; have NB336_314 := n14_; have NB321_336 := n15_; have NB336_321 := n16_; have NB327_336 := n17_; have NB336_327 := n18_; clear n0_ n1_ n2_ n3_ n4_ n5_ n6_ n7_ n8_ n9_ n10_ n11_ n12_ n13_ n14_ n15_ n16_ n17_ n18_; clear hb hbox hg; have hnb53 := NB336_313.out; have hnc53 := NB313_336.out; have hnb54 := NB336_314.out; have hnc54 := NB314_336.out; have hnb55 := NB336_321.out; have hnc55 := NB321_336.out; have hnb56 := NB336_327.out; have hnc56 := NB327_336.out; have hcz57_0 : w52.cell? ⟨gb336, 0, none⟩ = some (.int .i64 0) := (blk_cell BK336.out 0).trans rfl; have hcz57_1 : w52.cell? ⟨gb336, 1, none⟩ = some (.slice none 0 0) := (blk_cell BK336.out 1).trans rfl; have hcz57_2 : w52.cell? ⟨gb336, 2, none⟩ = some (.string (⟨#[]⟩ : ByteArray)) := (blk_cell BK336.out 2).trans rfl; have hfz57_0 := blk_frozen BK336.out 0; have hfz57_1 := blk_frozen BK336.out 1; have hfz57_2 := blk_frozen BK336.out 2; obtain ⟨Ao58, co58, eo58⟩ := Kd.R_slice HO332.out; subst eo58) | ((with_reducible refine gate_callee (f := 10) rfl ?_); refine goesL_ (some 47) rfl rfl Tryd.func10 (by kernel_rfl) rfl #[.string (t328.extract 0 ((ji14) : Int).toNat)] rfl (by (try simp only [List.map_toArray, List.map_cons, List.map_nil]); first | done | (simp only [hji14]; rfl) | rfl | (simp only [List.length_drop, List.length_take]; rfl)) ?_; (with_reducible refine (entry_Parse.calls k (t328.extract 0 ((ji14) : Int).toNat) t337 t338 t341 t342 t343 _ A17.out ?sideLd).mono ?_); (case sideLd => exact laid_below HLd.out (by repeat (first | (with_reducible first | exact HB.out | apply below_alloc | apply pw_below_drewN | apply below_drew1 | refine below_set ?_ GE313.out | refine below_set ?_ GE314.out | refine below_set ?_ GE321.out | refine below_set ?_ GE327.out | refine below_set ?_ GE336.out | refine below_set ?_ GE344.out) | exact HB.out))); rintro e w59 ⟨v339, rfl, ho0, hb⟩; refine ⟨_, rfl, ?_⟩; have n0_ := Aside0.mk (Kd.V_elder' (by (with_reducible repeat (first | apply Kd.V_alloc | apply Kd.V_drewN | apply Kd.V_drew)); exact (Kd.V_mono (Kd.V_far (p := ⟨gb336, 2, none⟩) (Kd.V_far (p := ⟨gb336, 1, none⟩) (Kd.V_far (p := ⟨gb336, 0, none⟩) (Kd.V_mono HO319.out (fun k_ hk => (⟨hk, by first | exact hk.2 | grind⟩ : _ ∧ k_ ≠ gb336))) (fun _ hk => hk.2) (.int .i64 t329)) (fun _ hk => hk.2) (.slice Ao58 t330.length co58)) (fun _ hk => hk.2) (.string t333)) (fun _ h_ => h_.1))) (Kd.R_base ho0) hb); have n1_ := Aside0.mk (Kd.V_elder' (by (with_reducible repeat (first | apply Kd.V_alloc | apply Kd.V_drewN | apply Kd.V_drew)); exact (Kd.V_mono (Kd.V_far (p := ⟨gb336, 2, none⟩) (Kd.V_far (p := ⟨gb336, 1, none⟩) (Kd.V_far (p := ⟨gb336, 0, none⟩) (Kd.V_mono HO325.out (fun k_ hk => (⟨hk, by first | exact hk.2 | grind⟩ : _ ∧ k_ ≠ gb336))) (fun _ hk => hk.2) (.int .i64 t329)) (fun _ hk => hk.2) (.slice Ao58 t330.length co58)) (fun _ hk => hk.2) (.string t333)) (fun _ h_ => h_.1))) (Kd.R_base ho0) hb); have n2_ := Aside0.mk (Kd.R_elder' (by (with_reducible repeat (first | apply Kd.R_alloc | apply Kd.R_drewN | apply Kd.R_drew)); exact (Kd.R_mono (Kd.R_far (p := ⟨gb336, 2, none⟩) (Kd.R_far (p := ⟨gb336, 1, none⟩) (Kd.R_far (p := ⟨gb336, 0, none⟩) (Kd.R_types HO332.out BK336.out (by decide)) (fun _ hk => hk.2) (.int .i64 t329)) (fun _ hk => hk.2) (.slice Ao58 t330.length co58)) (fun _ hk => hk.2) (.string t333)) (fun _ h_ => h_.1))) (Kd.R_base ho0) hb); have n3_ := Aside0.mk (Kd.R_lower (Kd.R_new' ho0 (Kd.R_lt (by (with_reducible repeat (first | apply Kd.R_alloc | apply Kd.R_drewN | apply Kd.R_drew)); exact (Kd.R_mono (Kd.R_far (p := ⟨gb336, 2, none⟩) (Kd.R_far (p := ⟨gb336, 1, none⟩) (Kd.R_far (p := ⟨gb336, 0, none⟩) (Kd.R_types HO332.out BK336.out (by decide)) (fun _ hk => hk.2) (.int .i64 t329)) (fun _ hk => hk.2) (.slice Ao58 t330.length co58)) (fun _ hk => hk.2) (.string t333)) (fun _ h_ => h_.1))))) (below_size (by repeat (first | (with_reducible first | exact HB.out | apply below_alloc | apply pw_below_drewN | apply below_drew1 | refine below_set ?_ GE313.out | refine below_set ?_ GE314.out | refine below_set ?_ GE321.out | refine below_set ?_ GE327.out | refine below_set ?_ GE336.out) | exact HB.out)))); have n4_ := Aside0.mk (blk_below (g := gb313) (o := .cells #[.int .i64 a0_0, .slice A0_1 l0_1.length c0_1, .string a0_2, .bool a0_3, .int .i8 a0_4, .slice A0_5 l0_5.length c0_5, .int .u8 a0_6] 29 (0, 0)) (by (with_reducible repeat (first | refine blk_drewN ?_ _ | refine blk_drew ?_ | refine blk_alloc ?_ _)); refine blk_far ?_ NB313_336.out _; (with_reducible repeat (first | refine blk_drewN ?_ _ | refine blk_drew ?_ | refine blk_alloc ?_ _)); refine blk_far ?_ NB313_336.out _; (with_reducible repeat (first | refine blk_drewN ?_ _ | refine blk_drew ?_ | refine blk_alloc ?_ _)); refine blk_far ?_ NB313_336.out _; (with_reducible repeat (first | refine blk_drewN ?_ _ | refine blk_drew ?_ | refine blk_alloc ?_ _)); exact BK313.out) hb); have n5_ := Aside0.mk (blk_below (g := gb314) (o := .cells #[.int .i64 a1_0, .slice A1_1 l1_1.length c1_1, .string a1_2, .bool a1_3, .int .i8 a1_4, .slice A1_5 l1_5.length c1_5, .int .u8 a1_6] 29 (0, 0)) (by (with_reducible repeat (first | refine blk_drewN ?_ _ | refine blk_drew ?_ | refine blk_alloc ?_ _)); refine blk_far ?_ NB314_336.out _; (with_reducible repeat (first | refine blk_drewN ?_ _ | refine blk_drew ?_ | refine blk_alloc ?_ _)); refine blk_far ?_ NB314_336.out _; (with_reducible repeat (first | refine blk_drewN ?_ _ | refine blk_drew ?_ | refine blk_alloc ?_ _)); refine blk_far ?_ NB314_336.out _; (with_reducible repeat (first | refine blk_drewN ?_ _ | refine blk_drew ?_ | refine blk_alloc ?_ _)); exact BK314.out) hb); have n6_ := Aside0.mk (blk_below (g := gb321) (o := .cells #[.int .i64 t316, .slice Ao39 t317.length co39, .string t320] 25 (0, 0)) (by (with_reducible repeat (first | refine blk_drewN ?_ _ | refine blk_drew ?_ | refine blk_alloc ?_ _)); refine blk_far ?_ NB321_336.out _; (with_reducible repeat (first | refine blk_drewN ?_ _ | refine blk_drew ?_ | refine blk_alloc ?_ _)); refine blk_far ?_ NB321_336.out _; (with_reducible repeat (first | refine blk_drewN ?_ _ | refine blk_drew ?_ | refine blk_alloc ?_ _)); refine blk_far ?_ NB321_336.out _; (with_reducible repeat (first | refine blk_drewN ?_ _ | refine blk_drew ?_ | refine blk_alloc ?_ _)); exact BK321.out) hb); have n7_ := Aside0.mk (blk_below (g := gb327) (o := .cells #[.int .i64 t322, .slice Ao48 t323.length co48, .string t326] 25 (0, 0)) (by (with_reducible repeat (first | refine blk_drewN ?_ _ | refine blk_drew ?_ | refine blk_alloc ?_ _)); refine blk_far ?_ NB327_336.out _; (with_reducible repeat (first | refine blk_drewN ?_ _ | refine blk_drew ?_ | refine blk_alloc ?_ _)); refine blk_far ?_ NB327_336.out _; (with_reducible repeat (first | refine blk_drewN ?_ _ | refine blk_drew ?_ | refine blk_alloc ?_ _)); refine blk_far ?_ NB327_336.out _; (with_reducible repeat (first | refine blk_drewN ?_ _ | refine blk_drew ?_ | refine blk_alloc ?_ _)); exact BK327.out) hb); have n8_ := Aside0.mk (blk_below (g := gb336) (o := .cells #[.int .i64 t329, .slice Ao58 t330.length co58, .string t333] 25 (0, 0)) (by (with_reducible repeat (first | refine blk_drewN ?_ _ | refine blk_drew ?_ | refine blk_alloc ?_ _)); refine blk_put (cs := #[.int .i64 t329, .slice Ao58 t330.length co58, .string (⟨#[]⟩ : ByteArray)]) ?_ 2 _ rfl; (with_reducible repeat (first | refine blk_drewN ?_ _ | refine blk_drew ?_ | refine blk_alloc ?_ _)); refine blk_put (cs := #[.int .i64 t329, .slice none 0 0, .string (⟨#[]⟩ : ByteArray)]) ?_ 1 _ rfl; (with_reducible repeat (first | refine blk_drewN ?_ _ | refine blk_drew ?_ | refine blk_alloc ?_ _)); refine blk_put (cs := #[.int .i64 0, .slice none 0 0, .string (⟨#[]⟩ : ByteArray)]) ?_ 0 _ rfl; (with_reducible repeat (first | refine blk_drewN ?_ _ | refine blk_drew ?_ | refine blk_alloc ?_ _)); exact BK336.out) hb); have n9_ := Aside0.mk (below_step (by repeat (first | (with_reducible first | exact HB.out | apply below_alloc | apply pw_below_drewN | apply below_drew1 | refine below_set ?_ GE313.out | refine below_set ?_ GE314.out | refine below_set ?_ GE321.out | refine below_set ?_ GE327.out | refine below_set ?_ GE336.out) | exact HB.out)) hb); clear HO319; clear HO325; clear HO332; clear BK313; clear BK314; clear BK321; clear BK327; clear BK336; clear HB; have HO319 := n0_; have HO325 := n1_; have HO332 := n2_; have HO340 := n3_; have BK313 := n4_; have BK314 := n5_; have BK321 := n6_; have BK327 := n7_; have BK336 := n8_; have HB := n9_; clear n0_ n1_ n2_ n3_ n4_ n5_ n6_ n7_ n8_ n9_; (try clear hb); (try clear hb2); (try clear hk); (try clear hi); (try clear ho0)) | ((with_reducible refine gate_dst (N := 16) rfl ?_); (try (refine gate_guard (by rfl) ?_; dsimp only)); refine box_event ?hg (N := 16) ?hd (cs := #[.int .i64 0, .slice none 0 0, .string (⟨#[]⟩ : ByteArray)]) (t := 25) ?hr ?_; (case hd => rfl); (case hg => rfl); (case hr => first | (go_simp; done) | (go_simp; rfl)); intro gb344 hg w60 hbox hb; have n0_ := Aside0.mk (Kd.V_below (Kd.V_elderB (by (with_reducible repeat (first | apply Kd.V_alloc | apply Kd.V_drewN | apply Kd.V_drew)); exact HO319.out) gb344 (Nat.le_of_eq hg.symm)) hb); have n1_ := Aside0.mk (Kd.V_below (Kd.V_elderB (by (with_reducible repeat (first | apply Kd.V_alloc | apply Kd.V_drewN | apply Kd.V_drew)); exact HO325.out) gb344 (Nat.le_of_eq hg.symm)) hb); have n2_ := Aside0.mk (Kd.R_below (rz HO332.out) hb); have n3_ := Aside0.mk (Kd.R_below (rz HO340.out) hb); have n4_ := Aside0.mk (blk_below (g := gb313) (o := .cells #[.int .i64 a0_0, .slice A0_1 l0_1.length c0_1, .string a0_2, .bool a0_3, .int .i8 a0_4, .slice A0_5 l0_5.length c0_5, .int .u8 a0_6] 29 (0, 0)) (bz BK313.out) hb); have n5_ := Aside0.mk (blk_below (g := gb314) (o := .cells #[.int .i64 a1_0, .slice A1_1 l1_1.length c1_1, .string a1_2, .bool a1_3, .int .i8 a1_4, .slice A1_5 l1_5.length c1_5, .int .u8 a1_6] 29 (0, 0)) (bz BK314.out) hb); have n6_ := Aside0.mk (blk_below (g := gb321) (o := .cells #[.int .i64 t316, .slice Ao39 t317.length co39, .string t320] 25 (0, 0)) (bz BK321.out) hb); have n7_ := Aside0.mk (blk_below (g := gb327) (o := .cells #[.int .i64 t322, .slice Ao48 t323.length co48, .string t326] 25 (0, 0)) (bz BK327.out) hb); have n8_ := Aside0.mk (blk_below (g := gb336) (o := .cells #[.int .i64 t329, .slice Ao58 t330.length co58, .string t333] 25 (0, 0)) (bz BK336.out) hb); have n9_ := Aside0.mk (below_step (by repeat (first | (with_reducible first | exact HB.out | apply below_alloc | apply pw_below_drewN | apply below_drew1 | refine below_set ?_ GE313.out | refine below_set ?_ GE314.out | refine below_set ?_ GE321.out | refine below_set ?_ GE327.out | refine below_set ?_ GE336.out) | exact HB.out)) hb); have n10_ := Aside0.mk (hbox); have n11_ := Aside0.mk ((by rw [hg]; exact (below_size (by repeat (first | (with_reducible first | exact HB.out | apply below_alloc | apply pw_below_drewN | apply below_drew1 | refine below_set ?_ GE313.out | refine below_set ?_ GE314.out | refine below_set ?_ GE321.out | refine below_set ?_ GE327.out | refine below_set ?_ GE336.out) | exact HB.out))) : w.heap.size ≤ gb344)); have n12_ := Aside0.mk ((by rw [hg]; exact (below_size (by repeat (first | (with_reducible first | exact HB.out | apply below_alloc | apply pw_below_drewN | apply below_drew1 | refine below_set ?_ GE313.out | refine below_set ?_ GE314.out | refine below_set ?_ GE321.out | refine below_set ?_ GE327.out | refine below_set ?_ GE336.out) | exact HB.out))) : w.heap.size ≤ gb344)); have n13_ := Aside0.mk ((by rw [hg]; exact Nat.ne_of_lt (blk_lt (g := gb313) (o := .cells #[.int .i64 a0_0, .slice A0_1 l0_1.length c0_1, .string a0_2, .bool a0_3, .int .i8 a0_4, .slice A0_5 l0_5.length c0_5, .int .u8 a0_6] 29 (0, 0)) (bz BK313.out)) : gb313 ≠ gb344)); have n14_ := Aside0.mk ((by rw [hg]; exact Nat.ne_of_gt (blk_lt (g := gb313) (o := .cells #[.int .i64 a0_0, .slice A0_1 l0_1.length c0_1, .string a0_2, .bool a0_3, .int .i8 a0_4, .slice A0_5 l0_5.length c0_5, .int .u8 a0_6] 29 (0, 0)) (bz BK313.out)) : gb344 ≠ gb313)); have n15_ := Aside0.mk ((by rw [hg]; exact Nat.ne_of_lt (blk_lt (g := gb314) (o := .cells #[.int .i64 a1_0, .slice A1_1 l1_1.length c1_1, .string a1_2, .bool a1_3, .int .i8 a1_4, .slice A1_5 l1_5.length c1_5, .int .u8 a1_6] 29 (0, 0)) (bz BK314.out)) : gb314 ≠ gb344)); have n16_ := Aside0.mk ((by rw [hg]; exact Nat.ne_of_gt (blk_lt (g := gb314) (o := .cells #[.int .i64 a1_0, .slice A1_1 l1_1.length c1_1, .string a1_2, .bool a1_3, .int .i8 a1_4, .slice A1_5 l1_5.length c1_5, .int .u8 a1_6] 29 (0, 0)) (bz BK314.out)) : gb344 ≠ gb314)); have n17_ := Aside0.mk ((by rw [hg]; exact Nat.ne_of_lt (blk_lt (g := gb321) (o := .cells #[.int .i64 t316, .slice Ao39 t317.length co39, .string t320] 25 (0, 0)) (bz BK321.out)) : gb321 ≠ gb344)); have n18_ := Aside0.mk ((by rw [hg]; exact Nat.ne_of_gt (blk_lt (g := gb321) (o := .cells #[.int .i64 t316, .slice Ao39 t317.length co39, .string t320] 25 (0, 0)) (bz BK321.out)) : gb344 ≠ gb321)); have n19_ := Aside0.mk ((by rw [hg]; exact Nat.ne_of_lt (blk_lt (g := gb327) (o := .cells #[.int .i64 t322, .slice Ao48 t323.length co48, .string t326] 25 (0, 0)) (bz BK327.out)) : gb327 ≠ gb344)); have n20_ := Aside0.mk ((by rw [hg]; exact Nat.ne_of_gt (blk_lt (g := gb327) (o := .cells #[.int .i64 t322, .slice Ao48 t323.length co48, .string t326] 25 (0, 0)) (bz BK327.out)) : gb344 ≠ gb327)); have n21_ := Aside0.mk ((by rw [hg]; exact Nat.ne_of_lt (blk_lt (g := gb336) (o := .cells #[.int .i64 t329, .slice Ao58 t330.length co58, .string t333] 25 (0, 0)) (bz BK336.out)) : gb336 ≠ gb344)); have n22_ := Aside0.mk ((by rw [hg]; exact Nat.ne_of_gt (blk_lt (g := gb336) (o := .cells #[.int .i64 t329, .slice Ao58 t330.length co58, .string t333] 25 (0, 0)) (bz BK336.out)) : gb344 ≠ gb336)); clear HO319; clear HO325; clear HO332; clear HO340; clear BK313; clear BK314; clear BK321; clear BK327; clear BK336; clear HB; have HO319 := n0_; have HO325 := n1_; have HO332 := n2_; have HO340 := n3_; have BK313 := n4_; have BK314 := n5_; have BK321 := n6_; have BK327 := n7_; have BK336 := n8_; have HB := n9_; have BK344 := n10_; have GW344 := n11_; have GE344 := n12_; have NB313_344 := n13_; have NB344_313 := n14_; have NB314_344 := n15_; have NB344_314 := n16_; have NB321_344 := n17_; have NB344_321 := n18_; have NB327_344 := n19_; have NB344_327 := n20_; have NB336_344 := n21_; have NB344_336 := n22_; clear n0_ n1_ n2_ n3_ n4_ n5_ n6_ n7_ n8_ n9_ n10_ n11_ n12_ n13_ n14_ n15_ n16_ n17_ n18_ n19_ n20_ n21_ n22_; clear hb hbox hg; have hnb61 := NB344_313.out; have hnc61 := NB313_344.out; have hnb62 := NB344_314.out; have hnc62 := NB314_344.out; have hnb63 := NB344_321.out; have hnc63 := NB321_344.out; have hnb64 := NB344_327.out; have hnc64 := NB327_344.out; have hnb65 := NB344_336.out; have hnc65 := NB336_344.out; have hcz66_0 : w60.cell? ⟨gb344, 0, none⟩ = some (.int .i64 0) := (blk_cell BK344.out 0).trans rfl; have hcz66_1 : w60.cell? ⟨gb344, 1, none⟩ = some (.slice none 0 0) := (blk_cell BK344.out 1).trans rfl; have hcz66_2 : w60.cell? ⟨gb344, 2, none⟩ = some (.string (⟨#[]⟩ : ByteArray)) := (blk_cell BK344.out 2).trans rfl; have hfz66_0 := blk_frozen BK344.out 0; have hfz66_1 := blk_frozen BK344.out 1; have hfz66_2 := blk_frozen BK344.out 2; obtain ⟨Ao67, co67, eo67⟩ := Kd.R_slice HO340.out; subst eo67; have hcz68_0 : w60.cell? ⟨gb321, 0, none⟩ = some (.int .i64 t316) := (blk_cell BK321.out 0).trans rfl; have hcz68_1 : w60.cell? ⟨gb321, 1, none⟩ = some (.slice Ao39 t317.length co39) := (blk_cell BK321.out 1).trans rfl; have hcz68_2 : w60.cell? ⟨gb321, 2, none⟩ = some (.string t320) := (blk_cell BK321.out 2).trans rfl; have hfz68_0 := blk_frozen BK321.out 0; have hfz68_1 := blk_frozen BK321.out 1; have hfz68_2 := blk_frozen BK321.out 2) | ((with_reducible refine gate_callee (f := 11) rfl ?_); refine goesL_ (some 52) rfl rfl Tryd.func11 (by kernel_rfl) rfl #[.agg #[.int .i64 t316, .slice Ao39 t317.length co39, .string t320]] rfl ml ?_; (with_reducible refine (entry_Right.calls k t316 _ _ t317 t320 t345 _ ?side1 ?side2 A18.out).mono ?_); (case side1 => refine (Kd.V_reads' (e := 48) (base := w.heap.size) (ok := fun k_ => ((((((k_ ≠ gb313 ∧ (k_ ≠ gb314 ∧ k_ ≠ gb321)) ∧ k_ ≠ gb327) ∧ some k_ ≠ (.slice Ao58 t330.length co58 : Value).ownBlock) ∧ k_ ≠ gb336) ∧ some k_ ≠ (.slice Ao67 t338.length co67 : Value).ownBlock) ∧ k_ ≠ gb344)) (n := t317.length) (c := co39) ?_).2.2; exact (by (with_reducible repeat (first | apply Kd.V_alloc | apply Kd.V_drewN | apply Kd.V_drew)); exact (Kd.V_mono (Kd.V_far (p := ⟨gb344, 2, none⟩) (Kd.V_far (p := ⟨gb344, 1, none⟩) (Kd.V_far (p := ⟨gb344, 0, none⟩) (Kd.V_mono HO319.out (fun k_ hk => (⟨hk, by first | exact hk.2 | grind⟩ : _ ∧ k_ ≠ gb344))) (fun _ hk => hk.2) (.int .i64 t337)) (fun _ hk => hk.2) (.slice Ao67 t338.length co67)) (fun _ hk => hk.2) (.string t341)) (fun _ h_ => h_.1)))); (case side2 => exact (Kd.V_reads' HO319.out).2.1); rintro e w69 ⟨rfl, hb⟩; refine ⟨_, rfl, ?_⟩; have n0_ := Aside0.mk (Kd.V_below (by (with_reducible repeat (first | apply Kd.V_alloc | apply Kd.V_drewN | apply Kd.V_drew)); exact (Kd.V_mono (Kd.V_far (p := ⟨gb344, 2, none⟩) (Kd.V_far (p := ⟨gb344, 1, none⟩) (Kd.V_far (p := ⟨gb344, 0, none⟩) (Kd.V_mono HO319.out (fun k_ hk => (⟨hk, by first | exact hk.2 | grind⟩ : _ ∧ k_ ≠ gb344))) (fun _ hk => hk.2) (.int .i64 t337)) (fun _ hk => hk.2) (.slice Ao67 t338.length co67)) (fun _ hk => hk.2) (.string t341)) (fun _ h_ => h_.1))) hb); have n1_ := Aside0.mk (Kd.V_below (by (with_reducible repeat (first | apply Kd.V_alloc | apply Kd.V_drewN | apply Kd.V_drew)); exact (Kd.V_mono (Kd.V_far (p := ⟨gb344, 2, none⟩) (Kd.V_far (p := ⟨gb344, 1, none⟩) (Kd.V_far (p := ⟨gb344, 0, none⟩) (Kd.V_mono HO325.out (fun k_ hk => (⟨hk, by first | exact hk.2 | grind⟩ : _ ∧ k_ ≠ gb344))) (fun _ hk => hk.2) (.int .i64 t337)) (fun _ hk => hk.2) (.slice Ao67 t338.length co67)) (fun _ hk => hk.2) (.string t341)) (fun _ h_ => h_.1))) hb); have n2_ := Aside0.mk (Kd.R_below (by (with_reducible repeat (first | apply Kd.R_alloc | apply Kd.R_drewN | apply Kd.R_drew)); exact (Kd.R_mono (Kd.R_far (p := ⟨gb344, 2, none⟩) (Kd.R_far (p := ⟨gb344, 1, none⟩) (Kd.R_far (p := ⟨gb344, 0, none⟩) (Kd.R_types HO332.out BK344.out (by decide)) (fun _ hk => hk.2) (.int .i64 t337)) (fun _ hk => hk.2) (.slice Ao67 t338.length co67)) (fun _ hk => hk.2) (.string t341)) (fun _ h_ => h_.1))) hb); have n3_ := Aside0.mk (Kd.R_below (by (with_reducible repeat (first | apply Kd.R_alloc | apply Kd.R_drewN | apply Kd.R_drew)); exact (Kd.R_mono (Kd.R_far (p := ⟨gb344, 2, none⟩) (Kd.R_far (p := ⟨gb344, 1, none⟩) (Kd.R_far (p := ⟨gb344, 0, none⟩) (Kd.R_types HO340.out BK344.out (by decide)) (fun _ hk => hk.2) (.int .i64 t337)) (fun _ hk => hk.2) (.slice Ao67 t338.length co67)) (fun _ hk => hk.2) (.string t341)) (fun _ h_ => h_.1))) hb); have n4_ := Aside0.mk (blk_below (g := gb313) (o := .cells #[.int .i64 a0_0, .slice A0_1 l0_1.length c0_1, .string a0_2, .bool a0_3, .int .i8 a0_4, .slice A0_5 l0_5.length c0_5, .int .u8 a0_6] 29 (0, 0)) (by (with_reducible repeat (first | refine blk_drewN ?_ _ | refine blk_drew ?_ | refine blk_alloc ?_ _)); refine blk_far ?_ NB313_344.out _; (with_reducible repeat (first | refine blk_drewN ?_ _ | refine blk_drew ?_ | refine blk_alloc ?_ _)); refine blk_far ?_ NB313_344.out _; (with_reducible repeat (first | refine blk_drewN ?_ _ | refine blk_drew ?_ | refine blk_alloc ?_ _)); refine blk_far ?_ NB313_344.out _; (with_reducible repeat (first | refine blk_drewN ?_ _ | refine blk_drew ?_ | refine blk_alloc ?_ _)); exact BK313.out) hb); have n5_ := Aside0.mk (blk_below (g := gb314) (o := .cells #[.int .i64 a1_0, .slice A1_1 l1_1.length c1_1, .string a1_2, .bool a1_3, .int .i8 a1_4, .slice A1_5 l1_5.length c1_5, .int .u8 a1_6] 29 (0, 0)) (by (with_reducible repeat (first | refine blk_drewN ?_ _ | refine blk_drew ?_ | refine blk_alloc ?_ _)); refine blk_far ?_ NB314_344.out _; (with_reducible repeat (first | refine blk_drewN ?_ _ | refine blk_drew ?_ | refine blk_alloc ?_ _)); refine blk_far ?_ NB314_344.out _; (with_reducible repeat (first | refine blk_drewN ?_ _ | refine blk_drew ?_ | refine blk_alloc ?_ _)); refine blk_far ?_ NB314_344.out _; (with_reducible repeat (first | refine blk_drewN ?_ _ | refine blk_drew ?_ | refine blk_alloc ?_ _)); exact BK314.out) hb); have n6_ := Aside0.mk (blk_below (g := gb321) (o := .cells #[.int .i64 t316, .slice Ao39 t317.length co39, .string t320] 25 (0, 0)) (by (with_reducible repeat (first | refine blk_drewN ?_ _ | refine blk_drew ?_ | refine blk_alloc ?_ _)); refine blk_far ?_ NB321_344.out _; (with_reducible repeat (first | refine blk_drewN ?_ _ | refine blk_drew ?_ | refine blk_alloc ?_ _)); refine blk_far ?_ NB321_344.out _; (with_reducible repeat (first | refine blk_drewN ?_ _ | refine blk_drew ?_ | refine blk_alloc ?_ _)); refine blk_far ?_ NB321_344.out _; (with_reducible repeat (first | refine blk_drewN ?_ _ | refine blk_drew ?_ | refine blk_alloc ?_ _)); exact BK321.out) hb); have n7_ := Aside0.mk (blk_below (g := gb327) (o := .cells #[.int .i64 t322, .slice Ao48 t323.length co48, .string t326] 25 (0, 0)) (by (with_reducible repeat (first | refine blk_drewN ?_ _ | refine blk_drew ?_ | refine blk_alloc ?_ _)); refine blk_far ?_ NB327_344.out _; (with_reducible repeat (first | refine blk_drewN ?_ _ | refine blk_drew ?_ | refine blk_alloc ?_ _)); refine blk_far ?_ NB327_344.out _; (with_reducible repeat (first | refine blk_drewN ?_ _ | refine blk_drew ?_ | refine blk_alloc ?_ _)); refine blk_far ?_ NB327_344.out _; (with_reducible repeat (first | refine blk_drewN ?_ _ | refine blk_drew ?_ | refine blk_alloc ?_ _)); exact BK327.out) hb); have n8_ := Aside0.mk (blk_below (g := gb336) (o := .cells #[.int .i64 t329, .slice Ao58 t330.length co58, .string t333] 25 (0, 0)) (by (with_reducible repeat (first | refine blk_drewN ?_ _ | refine blk_drew ?_ | refine blk_alloc ?_ _)); refine blk_far ?_ NB336_344.out _; (with_reducible repeat (first | refine blk_drewN ?_ _ | refine blk_drew ?_ | refine blk_alloc ?_ _)); refine blk_far ?_ NB336_344.out _; (with_reducible repeat (first | refine blk_drewN ?_ _ | refine blk_drew ?_ | refine blk_alloc ?_ _)); refine blk_far ?_ NB336_344.out _; (with_reducible repeat (first | refine blk_drewN ?_ _ | refine blk_drew ?_ | refine blk_alloc ?_ _)); exact BK336.out) hb); have n9_ := Aside0.mk (blk_below (g := gb344) (o := .cells #[.int .i64 t337, .slice Ao67 t338.length co67, .string t341] 25 (0, 0)) (by (with_reducible repeat (first | refine blk_drewN ?_ _ | refine blk_drew ?_ | refine blk_alloc ?_ _)); refine blk_put (cs := #[.int .i64 t337, .slice Ao67 t338.length co67, .string (⟨#[]⟩ : ByteArray)]) ?_ 2 _ rfl; (with_reducible repeat (first | refine blk_drewN ?_ _ | refine blk_drew ?_ | refine blk_alloc ?_ _)); refine blk_put (cs := #[.int .i64 t337, .slice none 0 0, .string (⟨#[]⟩ : ByteArray)]) ?_ 1 _ rfl; (with_reducible repeat (first | refine blk_drewN ?_ _ | refine blk_drew ?_ | refine blk_alloc ?_ _)); refine blk_put (cs := #[.int .i64 0, .slice none 0 0, .string (⟨#[]⟩ : ByteArray)]) ?_ 0 _ rfl; (with_reducible repeat (first | refine blk_drewN ?_ _ | refine blk_drew ?_ | refine blk_alloc ?_ _)); exact BK344.out) hb); have n10_ := Aside0.mk (below_step (by repeat (first | (with_reducible first | exact HB.out | apply below_alloc | apply pw_below_drewN | apply below_drew1 | refine below_set ?_ GE313.out | refine below_set ?_ GE314.out | refine below_set ?_ GE321.out | refine below_set ?_ GE327.out | refine below_set ?_ GE336.out | refine below_set ?_ GE344.out) | exact HB.out)) hb); clear HO319; clear HO325; clear HO332; clear HO340; clear BK313; clear BK314; clear BK321; clear BK327; clear BK336; clear BK344; clear HB; have HO319 := n0_; have HO325 := n1_; have HO332 := n2_; have HO340 := n3_; have BK313 := n4_; have BK314 := n5_; have BK321 := n6_; have BK327 := n7_; have BK336 := n8_; have BK344 := n9_; have HB := n10_; clear n0_ n1_ n2_ n3_ n4_ n5_ n6_ n7_ n8_ n9_ n10_; (try clear hb); (try clear hb2); (try clear hk); (try clear hi)))
       have n0_ := Aside0.mk (Kd.V_drew HO319.out)
       have n1_ := Aside0.mk (Kd.V_drew HO325.out)
       have n2_ := Aside0.mk (Kd.R_drew HO332.out)
       have n3_ := Aside0.mk (Kd.R_drew HO340.out)
       have n4_ := Aside0.mk (blk_drew BK313.out)
       have n5_ := Aside0.mk (blk_drew BK314.out)
       have n6_ := Aside0.mk (blk_drew BK321.out)
       have n7_ := Aside0.mk (blk_drew BK327.out)
       have n8_ := Aside0.mk (blk_drew BK336.out)
       have n9_ := Aside0.mk (blk_drew BK344.out)
       have n10_ := Aside0.mk (below_drew1 HB.out)
       clear HO319
       clear HO325
       clear HO332
       clear HO340
       clear BK313
       clear BK314
       clear BK321
       clear BK327
       clear BK336
       clear BK344
       clear HB
       have HO319 := n0_
       have HO325 := n1_
       have HO332 := n2_
       have HO340 := n3_
       have BK313 := n4_
       have BK314 := n5_
       have BK321 := n6_
       have BK327 := n7_
       have BK336 := n8_
       have BK344 := n9_
       have HB := n10_
       clear n0_ n1_ n2_ n3_ n4_ n5_ n6_ n7_ n8_ n9_ n10_
       by_cases c19 : t345 = true
       ·subst c19
        have H1 : (if t335 = true then ((entry_Same.f k t316 t317 t320 t329 t330 t333).bind fun t346 => (if t346 = true then (if t334 = (t328.size : Int) then (if t343 = true then (none) else ((entry_Right.f k t322 t323 t326).bind fun t347 => (if t347 = true then ((entry_Put.f k t322 t323 t326).bind fun t348 => ((entry_Same.f k t316 t317 t320 t322 t323 t326).bind fun t349 => (some ((t328.toList == t348.toList) == t349)))) else (some true)))) else (none)) else (none))) else (none)) = some r := by rw [if_pos rfl] at H; exact H
        clear H
        have H := H1
        clear H1
        by_cases c20 : t335 = true
        ·subst c20
         have H1 : ((entry_Same.f k t316 t317 t320 t329 t330 t333).bind fun t346 => (if t346 = true then (if t334 = (t328.size : Int) then (if t343 = true then (none) else ((entry_Right.f k t322 t323 t326).bind fun t347 => (if t347 = true then ((entry_Put.f k t322 t323 t326).bind fun t348 => ((entry_Same.f k t316 t317 t320 t322 t323 t326).bind fun t349 => (some ((t328.toList == t348.toList) == t349)))) else (some true)))) else (none)) else (none))) = some r := by rw [if_pos rfl] at H; exact H
         clear H
         have H := H1
         clear H1
         replace H := Option.bind_eq_some_iff.mp H
         obtain ⟨t346, A210, H⟩ := H
         replace H : (if t346 = true then (if t334 = (t328.size : Int) then (if t343 = true then (none) else ((entry_Right.f k t322 t323 t326).bind fun t347 => (if t347 = true then ((entry_Put.f k t322 t323 t326).bind fun t348 => ((entry_Same.f k t316 t317 t320 t322 t323 t326).bind fun t349 => (some ((t328.toList == t348.toList) == t349)))) else (some true)))) else (none)) else (none)) = some r := H
         have A21 := Aside0.mk A210
         clear A210
         by_cases c22 : t346 = true
         ·subst c22
          have H1 : (if t334 = (t328.size : Int) then (if t343 = true then (none) else ((entry_Right.f k t322 t323 t326).bind fun t347 => (if t347 = true then ((entry_Put.f k t322 t323 t326).bind fun t348 => ((entry_Same.f k t316 t317 t320 t322 t323 t326).bind fun t349 => (some ((t328.toList == t348.toList) == t349)))) else (some true)))) else (none)) = some r := by rw [if_pos rfl] at H; exact H
          clear H
          have H := H1
          clear H1
          by_cases c23 : t334 = (t328.size : Int)
          ·rw [if_pos c23] at H
           have c23b0 : (t334 == (t328.size : Int)) = true := beq_iff_eq.mpr c23
           have c23b1 : (t334 != (t328.size : Int)) = false := bne_eq_false_iff_eq.mpr c23
           clear c23
           by_cases c24 : t343 = true
           ·subst c24
            have H1 : (none) = some r := by rw [if_pos rfl] at H; exact H
            clear H
            have H := H1
            clear H1
            exact absurd H (by simp)
           ·replace c24 := Bool.eq_false_iff.mpr c24
            subst c24
            have H1 : ((entry_Right.f k t322 t323 t326).bind fun t347 => (if t347 = true then ((entry_Put.f k t322 t323 t326).bind fun t348 => ((entry_Same.f k t316 t317 t320 t322 t323 t326).bind fun t349 => (some ((t328.toList == t348.toList) == t349)))) else (some true))) = some r := by rw [if_neg (show ¬ (false = true) by decide)] at H; exact H
            clear H
            have H := H1
            clear H1
            replace H := Option.bind_eq_some_iff.mp H
            obtain ⟨t347, A250, H⟩ := H
            replace H : (if t347 = true then ((entry_Put.f k t322 t323 t326).bind fun t348 => ((entry_Same.f k t316 t317 t320 t322 t323 t326).bind fun t349 => (some ((t328.toList == t348.toList) == t349)))) else (some true)) = some r := H
            have A25 := Aside0.mk A250
            clear A250
            by_cases c26 : t347 = true
            ·subst c26
             have H1 : ((entry_Put.f k t322 t323 t326).bind fun t348 => ((entry_Same.f k t316 t317 t320 t322 t323 t326).bind fun t349 => (some ((t328.toList == t348.toList) == t349)))) = some r := by rw [if_pos rfl] at H; exact H
             clear H
             have H := H1
             clear H1
             replace H := Option.bind_eq_some_iff.mp H
             obtain ⟨t348, A270, H⟩ := H
             replace H : ((entry_Same.f k t316 t317 t320 t322 t323 t326).bind fun t349 => (some ((t328.toList == t348.toList) == t349))) = some r := H
             have A27 := Aside0.mk A270
             clear A270
             replace H := Option.bind_eq_some_iff.mp H
             obtain ⟨t349, A280, H⟩ := H
             replace H : (some ((t328.toList == t348.toList) == t349)) = some r := H
             have A28 := Aside0.mk A280
             clear A280
             obtain rfl := Option.some.inj H
             refine start_ (n := 47) (S := fun w' => w'.cell? ⟨gb321, 0, none⟩ = some (.int .i64 t316) ∧ w'.cell? ⟨gb321, 1, none⟩ = some (.slice Ao39 t317.length co39) ∧ w'.cell? ⟨gb321, 2, none⟩ = some (.string t320) ∧ w'.cell? ⟨gb336, 0, none⟩ = some (.int .i64 t329) ∧ w'.cell? ⟨gb336, 1, none⟩ = some (.slice Ao58 t330.length co58) ∧ w'.cell? ⟨gb336, 2, none⟩ = some (.string t333) ∧ w'.cell? ⟨gb327, 0, none⟩ = some (.int .i64 t322) ∧ w'.cell? ⟨gb327, 1, none⟩ = some (.slice Ao48 t323.length co48) ∧ w'.cell? ⟨gb327, 2, none⟩ = some (.string t326)) (ds := []) #[N_,N_,N_,N_,N_,N_,N_,N_,N_,N_,N_,N_,N_,N_,N_,N_,N_,N_,N_,N_,N_,N_,N_,N_,N_,N_,N_,N_,N_,N_,N_,N_,N_,N_,N_,N_,N_,N_,N_,N_,N_,N_,N_,N_,N_,N_,N_] (by kernel_rfl) rfl rfl ⟨(blk_cell BK321.out 0).trans rfl, (blk_cell BK321.out 1).trans rfl, (blk_cell BK321.out 2).trans rfl, (blk_cell BK336.out 0).trans rfl, (blk_cell BK336.out 1).trans rfl, (blk_cell BK336.out 2).trans rfl, (blk_cell BK327.out 0).trans rfl, (blk_cell BK327.out 1).trans rfl, (blk_cell BK327.out 2).trans rfl⟩ (fun hHeld => ?_); refine with_tabW archivistlaw13_EntryBack.tab12 archivistlaw13_EntryBack.bits12 (fun HT_ HW_ => ?_)
             generalize w69.drew = w70 at HO319 HO325 HO332 HO340 BK313 BK314 BK321 BK327 BK336 BK344 HB hHeld ⊢
             refine pY 0 53 #[J_,N_,N_,N_,N_,N_,N_,N_,N_,N_,N_,N_,N_,N_,N_,N_,N_,N_,N_,N_,N_,N_,N_,N_,N_,N_,N_,N_,N_,N_,N_,N_,N_,N_,N_,N_,N_,N_,N_,N_,N_,N_,N_,N_,N_,N_,N_] HT_.out ?_
             refine pY 1 54 #[J_,J_,N_,N_,N_,N_,N_,N_,N_,N_,N_,N_,N_,N_,N_,N_,N_,N_,N_,N_,N_,N_,N_,N_,N_,N_,N_,N_,N_,N_,N_,N_,N_,N_,N_,N_,N_,N_,N_,N_,N_,N_,N_,N_,N_,N_,N_] HT_.out ?_
             refine pY 2 55 #[J_,J_,J_,N_,N_,N_,N_,N_,N_,N_,N_,N_,N_,N_,N_,N_,N_,N_,N_,N_,N_,N_,N_,N_,N_,N_,N_,N_,N_,N_,N_,N_,N_,N_,N_,N_,N_,N_,N_,N_,N_,N_,N_,N_,N_,N_,N_] HT_.out ?_
             refine pY 3 56 #[J_,J_,J_,J_,N_,N_,N_,N_,N_,N_,N_,N_,N_,N_,N_,N_,N_,N_,N_,N_,N_,N_,N_,N_,N_,N_,N_,N_,N_,N_,N_,N_,N_,N_,N_,N_,N_,N_,N_,N_,N_,N_,N_,N_,N_,N_,N_] HT_.out ?_
             refine pY 4 57 #[J_,J_,J_,J_,J_,N_,N_,N_,N_,N_,N_,N_,N_,N_,N_,N_,N_,N_,N_,N_,N_,N_,N_,N_,N_,N_,N_,N_,N_,N_,N_,N_,N_,N_,N_,N_,N_,N_,N_,N_,N_,N_,N_,N_,N_,N_,N_] HT_.out ?_
             refine pY 5 58 #[J_,J_,J_,J_,J_,J_,N_,N_,N_,N_,N_,N_,N_,N_,N_,N_,N_,N_,N_,N_,N_,N_,N_,N_,N_,N_,N_,N_,N_,N_,N_,N_,N_,N_,N_,N_,N_,N_,N_,N_,N_,N_,N_,N_,N_,N_,N_] HT_.out ?_
             refine pY 6 59 #[J_,J_,J_,J_,J_,J_,J_,N_,N_,N_,N_,N_,N_,N_,N_,N_,N_,N_,N_,N_,N_,N_,N_,N_,N_,N_,N_,N_,N_,N_,N_,N_,N_,N_,N_,N_,N_,N_,N_,N_,N_,N_,N_,N_,N_,N_,N_] HT_.out ?_
             refine take_ (i := 7) (N := some 60) (v := ?_) (a' := ?_) #[J_,J_,J_,J_,J_,J_,J_,J_,N_,N_,N_,N_,N_,N_,N_,N_,N_,N_,N_,N_,N_,N_,N_,N_,N_,N_,N_,N_,N_,N_,N_,N_,N_,N_,N_,N_,N_,N_,N_,N_,N_,N_,N_,N_,N_,N_,N_] rfl rfl (take_ofW HT_.out HW_.out (by kernel_rfl)) (fun _ _ _ h => h) (Or.inl ⟨by rfl, ?_⟩) hHeld ?_ ?_
             rotate_left
             ·rintro w' ⟨s0, s1, s2, s3, s4, s5, s6, s7, s8⟩
              go_simp
              with_reducible rfl
             rotate_left
             ·simp only [Act.put, List.setIfInBounds_toArray, List.set_cons_zero, List.set_cons_succ, i64_w, i32_w]
              rfl
             refine take_ (i := 8) (N := some 61) (v := ?_) (a' := ?_) #[J_,J_,J_,J_,J_,J_,J_,J_,J_,N_,N_,N_,N_,N_,N_,N_,N_,N_,N_,N_,N_,N_,N_,N_,N_,N_,N_,N_,N_,N_,N_,N_,N_,N_,N_,N_,N_,N_,N_,N_,N_,N_,N_,N_,N_,N_,N_] rfl rfl (take_ofW HT_.out HW_.out (by kernel_rfl)) (fun _ _ _ h => h) (Or.inl ⟨by rfl, ?_⟩) hHeld ?_ ?_
             rotate_left
             ·rintro w' ⟨s0, s1, s2, s3, s4, s5, s6, s7, s8⟩
              go_simp
              with_reducible rfl
             rotate_left
             ·simp only [Act.put, List.setIfInBounds_toArray, List.set_cons_zero, List.set_cons_succ, i64_w, i32_w]
              rfl
             refine one_ (i := 9) (N := some 62) #[J_,J_,J_,J_,J_,J_,J_,J_,J_,J_,N_,N_,N_,N_,N_,N_,N_,N_,N_,N_,N_,N_,N_,N_,N_,N_,N_,N_,N_,N_,N_,N_,N_,N_,N_,N_,N_,N_,N_,N_,N_,N_,N_,N_,N_,N_,N_] rfl rfl (one_of HT_.out (by kernel_rfl)) (by decide) (fun K hK => ?_)
             refine goes_ Tryd.func12 (by kernel_rfl) rfl #[.agg #[.int .i64 t316, .slice Ao39 t317.length co39, .string t320], .agg #[.int .i64 t329, .slice Ao58 t330.length co58, .string t333]] (by rfl) rfl rfl ml ?_
             with_reducible refine (entry_Same.calls k t316 _ _ t317 t320 t329 _ _ t330 t333 true _ ?side1 ?side2 ?side3 ?side4 A21.out).mono ?_
             (case side1 => repeat (first | exact (Kd.V_reads' HO319.out).2.2 | (with_reducible refine Kd.C_alloc ?_ _) | (with_reducible refine Kd.C_drewN ?_ _) | (with_reducible refine Kd.C_drew ?_)))
             (case side2 => exact (Kd.V_reads' HO319.out).2.1)
             (case side3 => exact cz (Kd.R_reads' HO332.out).2.2)
             (case side4 => exact (Kd.R_reads' HO332.out).2.1)
             rintro e w71 ⟨rfl, hb⟩
             refine ⟨_, rfl, ?_⟩
             have n0_ := Aside0.mk (Kd.V_below (by (with_reducible repeat (first | apply Kd.V_alloc | apply Kd.V_drewN | apply Kd.V_drew)); exact HO319.out) hb)
             have n1_ := Aside0.mk (Kd.V_below (by (with_reducible repeat (first | apply Kd.V_alloc | apply Kd.V_drewN | apply Kd.V_drew)); exact HO325.out) hb)
             have n2_ := Aside0.mk (Kd.R_below (rz HO332.out) hb)
             have n3_ := Aside0.mk (Kd.R_below (rz HO340.out) hb)
             have n4_ := Aside0.mk (blk_below (g := gb313) (o := .cells #[.int .i64 a0_0, .slice A0_1 l0_1.length c0_1, .string a0_2, .bool a0_3, .int .i8 a0_4, .slice A0_5 l0_5.length c0_5, .int .u8 a0_6] 29 (0, 0)) (bz BK313.out) hb)
             have n5_ := Aside0.mk (blk_below (g := gb314) (o := .cells #[.int .i64 a1_0, .slice A1_1 l1_1.length c1_1, .string a1_2, .bool a1_3, .int .i8 a1_4, .slice A1_5 l1_5.length c1_5, .int .u8 a1_6] 29 (0, 0)) (bz BK314.out) hb)
             have n6_ := Aside0.mk (blk_below (g := gb321) (o := .cells #[.int .i64 t316, .slice Ao39 t317.length co39, .string t320] 25 (0, 0)) (bz BK321.out) hb)
             have n7_ := Aside0.mk (blk_below (g := gb327) (o := .cells #[.int .i64 t322, .slice Ao48 t323.length co48, .string t326] 25 (0, 0)) (bz BK327.out) hb)
             have n8_ := Aside0.mk (blk_below (g := gb336) (o := .cells #[.int .i64 t329, .slice Ao58 t330.length co58, .string t333] 25 (0, 0)) (bz BK336.out) hb)
             have n9_ := Aside0.mk (blk_below (g := gb344) (o := .cells #[.int .i64 t337, .slice Ao67 t338.length co67, .string t341] 25 (0, 0)) (bz BK344.out) hb)
             have n10_ := Aside0.mk (below_step (by repeat (first | (with_reducible first | exact HB.out | apply below_alloc | apply pw_below_drewN | apply below_drew1 | refine below_set ?_ GE313.out | refine below_set ?_ GE314.out | refine below_set ?_ GE321.out | refine below_set ?_ GE327.out | refine below_set ?_ GE336.out | refine below_set ?_ GE344.out) | exact HB.out)) hb)
             clear HO319
             clear HO325
             clear HO332
             clear HO340
             clear BK313
             clear BK314
             clear BK321
             clear BK327
             clear BK336
             clear BK344
             clear HB
             have HO319 := n0_
             have HO325 := n1_
             have HO332 := n2_
             have HO340 := n3_
             have BK313 := n4_
             have BK314 := n5_
             have BK321 := n6_
             have BK327 := n7_
             have BK336 := n8_
             have BK344 := n9_
             have HB := n10_
             clear n0_ n1_ n2_ n3_ n4_ n5_ n6_ n7_ n8_ n9_ n10_
             (try clear hb)
             (try clear hb2)
             (try clear hk)
             (try clear hi)
             refine hK.out _ _ ⟨(blk_cell BK321.out 0).trans rfl, (blk_cell BK321.out 1).trans rfl, (blk_cell BK321.out 2).trans rfl, (blk_cell BK336.out 0).trans rfl, (blk_cell BK336.out 1).trans rfl, (blk_cell BK336.out 2).trans rfl, (blk_cell BK327.out 0).trans rfl, (blk_cell BK327.out 1).trans rfl, (blk_cell BK327.out 2).trans rfl⟩ (fun hHeld => ?_)
             clear hK K
             refine norm_ (a' := ?_) ?_ ?_
             rotate_left
             ·show Act.put _ (some 62) _ = _
              simp only [Act.put, List.setIfInBounds_toArray, List.set_cons_zero, List.set_cons_succ, i64_w, i32_w]
              rfl
             refine pY 10 63 #[J_,J_,J_,J_,J_,J_,J_,J_,J_,J_,J_,N_,N_,N_,N_,N_,N_,N_,N_,N_,N_,N_,N_,N_,N_,N_,N_,N_,N_,N_,N_,N_,N_,N_,N_,N_,N_,N_,N_,N_,N_,N_,N_,N_,N_,N_,N_] HT_.out ?_
             refine pY 11 64 #[J_,J_,J_,J_,J_,J_,J_,J_,J_,J_,J_,J_,N_,N_,N_,N_,N_,N_,N_,N_,N_,N_,N_,N_,N_,N_,N_,N_,N_,N_,N_,N_,N_,N_,N_,N_,N_,N_,N_,N_,N_,N_,N_,N_,N_,N_,N_] HT_.out ?_
             refine pY 12 65 #[J_,J_,J_,J_,J_,J_,J_,J_,J_,J_,J_,J_,J_,N_,N_,N_,N_,N_,N_,N_,N_,N_,N_,N_,N_,N_,N_,N_,N_,N_,N_,N_,N_,N_,N_,N_,N_,N_,N_,N_,N_,N_,N_,N_,N_,N_,N_] HT_.out ?_
             refine pY 13 66 #[J_,J_,J_,J_,J_,J_,J_,J_,J_,J_,J_,J_,J_,J_,N_,N_,N_,N_,N_,N_,N_,N_,N_,N_,N_,N_,N_,N_,N_,N_,N_,N_,N_,N_,N_,N_,N_,N_,N_,N_,N_,N_,N_,N_,N_,N_,N_] HT_.out ?_
             refine pY 14 67 #[J_,J_,J_,J_,J_,J_,J_,J_,J_,J_,J_,J_,J_,J_,J_,N_,N_,N_,N_,N_,N_,N_,N_,N_,N_,N_,N_,N_,N_,N_,N_,N_,N_,N_,N_,N_,N_,N_,N_,N_,N_,N_,N_,N_,N_,N_,N_] HT_.out ?_
             refine pY 15 68 #[J_,J_,J_,J_,J_,J_,J_,J_,J_,J_,J_,J_,J_,J_,J_,J_,N_,N_,N_,N_,N_,N_,N_,N_,N_,N_,N_,N_,N_,N_,N_,N_,N_,N_,N_,N_,N_,N_,N_,N_,N_,N_,N_,N_,N_,N_,N_] HT_.out ?_
             refine pY 16 69 #[J_,J_,J_,J_,J_,J_,J_,J_,J_,J_,J_,J_,J_,J_,J_,J_,J_,N_,N_,N_,N_,N_,N_,N_,N_,N_,N_,N_,N_,N_,N_,N_,N_,N_,N_,N_,N_,N_,N_,N_,N_,N_,N_,N_,N_,N_,N_] HT_.out ?_
             refine pY 17 70 #[J_,J_,J_,J_,J_,J_,J_,J_,J_,J_,J_,J_,J_,J_,J_,J_,J_,J_,N_,N_,N_,N_,N_,N_,N_,N_,N_,N_,N_,N_,N_,N_,N_,N_,N_,N_,N_,N_,N_,N_,N_,N_,N_,N_,N_,N_,N_] HT_.out ?_
             refine pY 18 71 #[J_,J_,J_,J_,J_,J_,J_,J_,J_,J_,J_,J_,J_,J_,J_,J_,J_,J_,J_,N_,N_,N_,N_,N_,N_,N_,N_,N_,N_,N_,N_,N_,N_,N_,N_,N_,N_,N_,N_,N_,N_,N_,N_,N_,N_,N_,N_] HT_.out ?_
             refine pY 19 72 #[J_,J_,J_,J_,J_,J_,J_,J_,J_,J_,J_,J_,J_,J_,J_,J_,J_,J_,J_,J_,N_,N_,N_,N_,N_,N_,N_,N_,N_,N_,N_,N_,N_,N_,N_,N_,N_,N_,N_,N_,N_,N_,N_,N_,N_,N_,N_] HT_.out ?_
             refine pY 20 73 #[J_,J_,J_,J_,J_,J_,J_,J_,J_,J_,J_,J_,J_,J_,J_,J_,J_,J_,J_,J_,J_,N_,N_,N_,N_,N_,N_,N_,N_,N_,N_,N_,N_,N_,N_,N_,N_,N_,N_,N_,N_,N_,N_,N_,N_,N_,N_] HT_.out ?_
             refine pY 21 74 #[J_,J_,J_,J_,J_,J_,J_,J_,J_,J_,J_,J_,J_,J_,J_,J_,J_,J_,J_,J_,J_,J_,N_,N_,N_,N_,N_,N_,N_,N_,N_,N_,N_,N_,N_,N_,N_,N_,N_,N_,N_,N_,N_,N_,N_,N_,N_] HT_.out ?_
             refine pY 22 75 #[J_,J_,J_,J_,J_,J_,J_,J_,J_,J_,J_,J_,J_,J_,J_,J_,J_,J_,J_,J_,J_,J_,J_,N_,N_,N_,N_,N_,N_,N_,N_,N_,N_,N_,N_,N_,N_,N_,N_,N_,N_,N_,N_,N_,N_,N_,N_] HT_.out ?_
             refine pY 23 76 #[J_,J_,J_,J_,J_,J_,J_,J_,J_,J_,J_,J_,J_,J_,J_,J_,J_,J_,J_,J_,J_,J_,J_,J_,N_,N_,N_,N_,N_,N_,N_,N_,N_,N_,N_,N_,N_,N_,N_,N_,N_,N_,N_,N_,N_,N_,N_] HT_.out ?_
             refine pY 24 77 #[J_,J_,J_,J_,J_,J_,J_,J_,J_,J_,J_,J_,J_,J_,J_,J_,J_,J_,J_,J_,J_,J_,J_,J_,J_,N_,N_,N_,N_,N_,N_,N_,N_,N_,N_,N_,N_,N_,N_,N_,N_,N_,N_,N_,N_,N_,N_] HT_.out ?_
             refine pY 25 78 #[J_,J_,J_,J_,J_,J_,J_,J_,J_,J_,J_,J_,J_,J_,J_,J_,J_,J_,J_,J_,J_,J_,J_,J_,J_,J_,N_,N_,N_,N_,N_,N_,N_,N_,N_,N_,N_,N_,N_,N_,N_,N_,N_,N_,N_,N_,N_] HT_.out ?_
             refine pY 26 79 #[J_,J_,J_,J_,J_,J_,J_,J_,J_,J_,J_,J_,J_,J_,J_,J_,J_,J_,J_,J_,J_,J_,J_,J_,J_,J_,J_,N_,N_,N_,N_,N_,N_,N_,N_,N_,N_,N_,N_,N_,N_,N_,N_,N_,N_,N_,N_] HT_.out ?_
             refine pY 27 80 #[J_,J_,J_,J_,J_,J_,J_,J_,J_,J_,J_,J_,J_,J_,J_,J_,J_,J_,J_,J_,J_,J_,J_,J_,J_,J_,J_,J_,N_,N_,N_,N_,N_,N_,N_,N_,N_,N_,N_,N_,N_,N_,N_,N_,N_,N_,N_] HT_.out ?_
             refine pY 28 81 #[J_,J_,J_,J_,J_,J_,J_,J_,J_,J_,J_,J_,J_,J_,J_,J_,J_,J_,J_,J_,J_,J_,J_,J_,J_,J_,J_,J_,J_,N_,N_,N_,N_,N_,N_,N_,N_,N_,N_,N_,N_,N_,N_,N_,N_,N_,N_] HT_.out ?_
             refine pY 29 82 #[J_,J_,J_,J_,J_,J_,J_,J_,J_,J_,J_,J_,J_,J_,J_,J_,J_,J_,J_,J_,J_,J_,J_,J_,J_,J_,J_,J_,J_,J_,N_,N_,N_,N_,N_,N_,N_,N_,N_,N_,N_,N_,N_,N_,N_,N_,N_] HT_.out ?_
             refine pY 30 83 #[J_,J_,J_,J_,J_,J_,J_,J_,J_,J_,J_,J_,J_,J_,J_,J_,J_,J_,J_,J_,J_,J_,J_,J_,J_,J_,J_,J_,J_,J_,J_,N_,N_,N_,N_,N_,N_,N_,N_,N_,N_,N_,N_,N_,N_,N_,N_] HT_.out ?_
             refine take_ (i := 31) (N := some 84) (v := ?_) (a' := ?_) #[J_,J_,J_,J_,J_,J_,J_,J_,J_,J_,J_,J_,J_,J_,J_,J_,J_,J_,J_,J_,J_,J_,J_,J_,J_,J_,J_,J_,J_,J_,J_,J_,N_,N_,N_,N_,N_,N_,N_,N_,N_,N_,N_,N_,N_,N_,N_] rfl rfl (take_ofW HT_.out HW_.out (by kernel_rfl)) (fun _ _ _ h => h) (Or.inl ⟨by rfl, ?_⟩) hHeld ?_ ?_
             rotate_left
             ·rintro w' ⟨s0, s1, s2, s3, s4, s5, s6, s7, s8⟩
              go_simp
              with_reducible rfl
             rotate_left
             ·simp only [Act.put, List.setIfInBounds_toArray, List.set_cons_zero, List.set_cons_succ, i64_w, i32_w]
              rfl
             refine one_ (i := 32) (N := some 85) #[J_,J_,J_,J_,J_,J_,J_,J_,J_,J_,J_,J_,J_,J_,J_,J_,J_,J_,J_,J_,J_,J_,J_,J_,J_,J_,J_,J_,J_,J_,J_,J_,J_,N_,N_,N_,N_,N_,N_,N_,N_,N_,N_,N_,N_,N_,N_] rfl rfl (one_of HT_.out (by kernel_rfl)) (by decide) (fun K hK => ?_)
             refine goes_ Tryd.func11 (by kernel_rfl) rfl #[.agg #[.int .i64 t322, .slice Ao48 t323.length co48, .string t326]] (by rfl) rfl rfl ml ?_
             with_reducible refine (entry_Right.calls k t322 _ _ t323 t326 true _ ?side1 ?side2 A25.out).mono ?_
             (case side1 => repeat (first | exact (Kd.V_reads' HO325.out).2.2 | (with_reducible refine Kd.C_alloc ?_ _) | (with_reducible refine Kd.C_drewN ?_ _) | (with_reducible refine Kd.C_drew ?_)))
             (case side2 => exact (Kd.V_reads' HO325.out).2.1)
             rintro e w72 ⟨rfl, hb⟩
             refine ⟨_, rfl, ?_⟩
             have n0_ := Aside0.mk (Kd.V_below (by (with_reducible repeat (first | apply Kd.V_alloc | apply Kd.V_drewN | apply Kd.V_drew)); exact HO319.out) hb)
             have n1_ := Aside0.mk (Kd.V_below (by (with_reducible repeat (first | apply Kd.V_alloc | apply Kd.V_drewN | apply Kd.V_drew)); exact HO325.out) hb)
             have n2_ := Aside0.mk (Kd.R_below (rz HO332.out) hb)
             have n3_ := Aside0.mk (Kd.R_below (rz HO340.out) hb)
             have n4_ := Aside0.mk (blk_below (g := gb313) (o := .cells #[.int .i64 a0_0, .slice A0_1 l0_1.length c0_1, .string a0_2, .bool a0_3, .int .i8 a0_4, .slice A0_5 l0_5.length c0_5, .int .u8 a0_6] 29 (0, 0)) (bz BK313.out) hb)
             have n5_ := Aside0.mk (blk_below (g := gb314) (o := .cells #[.int .i64 a1_0, .slice A1_1 l1_1.length c1_1, .string a1_2, .bool a1_3, .int .i8 a1_4, .slice A1_5 l1_5.length c1_5, .int .u8 a1_6] 29 (0, 0)) (bz BK314.out) hb)
             have n6_ := Aside0.mk (blk_below (g := gb321) (o := .cells #[.int .i64 t316, .slice Ao39 t317.length co39, .string t320] 25 (0, 0)) (bz BK321.out) hb)
             have n7_ := Aside0.mk (blk_below (g := gb327) (o := .cells #[.int .i64 t322, .slice Ao48 t323.length co48, .string t326] 25 (0, 0)) (bz BK327.out) hb)
             have n8_ := Aside0.mk (blk_below (g := gb336) (o := .cells #[.int .i64 t329, .slice Ao58 t330.length co58, .string t333] 25 (0, 0)) (bz BK336.out) hb)
             have n9_ := Aside0.mk (blk_below (g := gb344) (o := .cells #[.int .i64 t337, .slice Ao67 t338.length co67, .string t341] 25 (0, 0)) (bz BK344.out) hb)
             have n10_ := Aside0.mk (below_step (by repeat (first | (with_reducible first | exact HB.out | apply below_alloc | apply pw_below_drewN | apply below_drew1 | refine below_set ?_ GE313.out | refine below_set ?_ GE314.out | refine below_set ?_ GE321.out | refine below_set ?_ GE327.out | refine below_set ?_ GE336.out | refine below_set ?_ GE344.out) | exact HB.out)) hb)
             clear HO319
             clear HO325
             clear HO332
             clear HO340
             clear BK313
             clear BK314
             clear BK321
             clear BK327
             clear BK336
             clear BK344
             clear HB
             have HO319 := n0_
             have HO325 := n1_
             have HO332 := n2_
             have HO340 := n3_
             have BK313 := n4_
             have BK314 := n5_
             have BK321 := n6_
             have BK327 := n7_
             have BK336 := n8_
             have BK344 := n9_
             have HB := n10_
             clear n0_ n1_ n2_ n3_ n4_ n5_ n6_ n7_ n8_ n9_ n10_
             (try clear hb)
             (try clear hb2)
             (try clear hk)
             (try clear hi)
             refine hK.out _ _ ⟨(blk_cell BK321.out 0).trans rfl, (blk_cell BK321.out 1).trans rfl, (blk_cell BK321.out 2).trans rfl, (blk_cell BK336.out 0).trans rfl, (blk_cell BK336.out 1).trans rfl, (blk_cell BK336.out 2).trans rfl, (blk_cell BK327.out 0).trans rfl, (blk_cell BK327.out 1).trans rfl, (blk_cell BK327.out 2).trans rfl⟩ (fun hHeld => ?_)
             clear hK K
             refine norm_ (a' := ?_) ?_ ?_
             rotate_left
             ·show Act.put _ (some 85) _ = _
              simp only [Act.put, List.setIfInBounds_toArray, List.set_cons_zero, List.set_cons_succ, i64_w, i32_w]
              rfl
             refine pY 33 86 #[J_,J_,J_,J_,J_,J_,J_,J_,J_,J_,J_,J_,J_,J_,J_,J_,J_,J_,J_,J_,J_,J_,J_,J_,J_,J_,J_,J_,J_,J_,J_,J_,J_,J_,N_,N_,N_,N_,N_,N_,N_,N_,N_,N_,N_,N_,N_] HT_.out ?_
             refine pY 34 87 #[J_,J_,J_,J_,J_,J_,J_,J_,J_,J_,J_,J_,J_,J_,J_,J_,J_,J_,J_,J_,J_,J_,J_,J_,J_,J_,J_,J_,J_,J_,J_,J_,J_,J_,J_,N_,N_,N_,N_,N_,N_,N_,N_,N_,N_,N_,N_] HT_.out ?_
             refine pY 35 88 #[J_,J_,J_,J_,J_,J_,J_,J_,J_,J_,J_,J_,J_,J_,J_,J_,J_,J_,J_,J_,J_,J_,J_,J_,J_,J_,J_,J_,J_,J_,J_,J_,J_,J_,J_,J_,N_,N_,N_,N_,N_,N_,N_,N_,N_,N_,N_] HT_.out ?_
             refine pY 36 89 #[J_,J_,J_,J_,J_,J_,J_,J_,J_,J_,J_,J_,J_,J_,J_,J_,J_,J_,J_,J_,J_,J_,J_,J_,J_,J_,J_,J_,J_,J_,J_,J_,J_,J_,J_,J_,J_,N_,N_,N_,N_,N_,N_,N_,N_,N_,N_] HT_.out ?_
             refine take_ (i := 37) (N := some 90) (v := ?_) (a' := ?_) #[J_,J_,J_,J_,J_,J_,J_,J_,J_,J_,J_,J_,J_,J_,J_,J_,J_,J_,J_,J_,J_,J_,J_,J_,J_,J_,J_,J_,J_,J_,J_,J_,J_,J_,J_,J_,J_,J_,N_,N_,N_,N_,N_,N_,N_,N_,N_] rfl rfl (take_ofW HT_.out HW_.out (by kernel_rfl)) (fun _ _ _ h => h) (Or.inl ⟨by rfl, ?_⟩) hHeld ?_ ?_
             rotate_left
             ·rintro w' ⟨s0, s1, s2, s3, s4, s5, s6, s7, s8⟩
              go_simp
              with_reducible rfl
             rotate_left
             ·simp only [Act.put, List.setIfInBounds_toArray, List.set_cons_zero, List.set_cons_succ, i64_w, i32_w]
              rfl
             refine take_ (i := 40) (N := some 93) (v := ?_) (a' := ?_) #[J_,J_,J_,J_,J_,J_,J_,J_,J_,J_,J_,J_,J_,J_,J_,J_,J_,J_,J_,J_,J_,J_,J_,J_,J_,J_,J_,J_,J_,J_,J_,J_,J_,J_,J_,J_,J_,J_,N_,N_,J_,N_,N_,N_,N_,N_,N_] rfl rfl (take_ofW HT_.out HW_.out (by kernel_rfl)) (fun _ _ _ h => h) (Or.inl ⟨by rfl, ?_⟩) hHeld ?_ ?_
             rotate_left
             ·rintro w' ⟨s0, s1, s2, s3, s4, s5, s6, s7, s8⟩
              go_simp
              with_reducible rfl
             rotate_left
             ·simp only [Act.put, List.setIfInBounds_toArray, List.set_cons_zero, List.set_cons_succ, i64_w, i32_w]
              rfl
             refine take_ (i := 41) (N := some 94) (v := ?_) (a' := ?_) #[J_,J_,J_,J_,J_,J_,J_,J_,J_,J_,J_,J_,J_,J_,J_,J_,J_,J_,J_,J_,J_,J_,J_,J_,J_,J_,J_,J_,J_,J_,J_,J_,J_,J_,J_,J_,J_,J_,N_,N_,J_,J_,N_,N_,N_,N_,N_] rfl rfl (take_ofW HT_.out HW_.out (by kernel_rfl)) (fun _ _ _ h => h) (Or.inl ⟨by rfl, ?_⟩) hHeld ?_ ?_
             rotate_left
             ·rintro w' ⟨s0, s1, s2, s3, s4, s5, s6, s7, s8⟩
              go_simp
              with_reducible rfl
             rotate_left
             ·simp only [Act.put, List.setIfInBounds_toArray, List.set_cons_zero, List.set_cons_succ, i64_w, i32_w]
              rfl
             refine one_ (i := 38) (N := some 91) #[J_,J_,J_,J_,J_,J_,J_,J_,J_,J_,J_,J_,J_,J_,J_,J_,J_,J_,J_,J_,J_,J_,J_,J_,J_,J_,J_,J_,J_,J_,J_,J_,J_,J_,J_,J_,J_,J_,J_,N_,J_,J_,N_,N_,N_,N_,N_] rfl rfl (one_of HT_.out (by kernel_rfl)) (by decide) (fun K hK => ?_)
             refine goes_ Tryd.func9 (by kernel_rfl) rfl #[.agg #[.int .i64 t322, .slice Ao48 t323.length co48, .string t326]] (by rfl) rfl rfl ml ?_
             with_reducible refine (entry_Put.calls k t322 _ _ t323 t326 t348 _ ?side1 ?side2 A27.out ?sideLd).mono ?_
             case sideLd => exact laid_below HLd.out (by repeat (first | exact HB.out))
             (case side1 => repeat (first | exact (Kd.V_reads' HO325.out).2.2 | (with_reducible refine Kd.C_alloc ?_ _) | (with_reducible refine Kd.C_drewN ?_ _) | (with_reducible refine Kd.C_drew ?_)))
             (case side2 => exact (Kd.V_reads' HO325.out).2.1)
             rintro e w73 ⟨rfl, hb⟩
             refine ⟨_, rfl, ?_⟩
             have n0_ := Aside0.mk (Kd.V_below (by (with_reducible repeat (first | apply Kd.V_alloc | apply Kd.V_drewN | apply Kd.V_drew)); exact HO319.out) hb)
             have n1_ := Aside0.mk (Kd.V_below (by (with_reducible repeat (first | apply Kd.V_alloc | apply Kd.V_drewN | apply Kd.V_drew)); exact HO325.out) hb)
             have n2_ := Aside0.mk (Kd.R_below (rz HO332.out) hb)
             have n3_ := Aside0.mk (Kd.R_below (rz HO340.out) hb)
             have n4_ := Aside0.mk (blk_below (g := gb313) (o := .cells #[.int .i64 a0_0, .slice A0_1 l0_1.length c0_1, .string a0_2, .bool a0_3, .int .i8 a0_4, .slice A0_5 l0_5.length c0_5, .int .u8 a0_6] 29 (0, 0)) (bz BK313.out) hb)
             have n5_ := Aside0.mk (blk_below (g := gb314) (o := .cells #[.int .i64 a1_0, .slice A1_1 l1_1.length c1_1, .string a1_2, .bool a1_3, .int .i8 a1_4, .slice A1_5 l1_5.length c1_5, .int .u8 a1_6] 29 (0, 0)) (bz BK314.out) hb)
             have n6_ := Aside0.mk (blk_below (g := gb321) (o := .cells #[.int .i64 t316, .slice Ao39 t317.length co39, .string t320] 25 (0, 0)) (bz BK321.out) hb)
             have n7_ := Aside0.mk (blk_below (g := gb327) (o := .cells #[.int .i64 t322, .slice Ao48 t323.length co48, .string t326] 25 (0, 0)) (bz BK327.out) hb)
             have n8_ := Aside0.mk (blk_below (g := gb336) (o := .cells #[.int .i64 t329, .slice Ao58 t330.length co58, .string t333] 25 (0, 0)) (bz BK336.out) hb)
             have n9_ := Aside0.mk (blk_below (g := gb344) (o := .cells #[.int .i64 t337, .slice Ao67 t338.length co67, .string t341] 25 (0, 0)) (bz BK344.out) hb)
             have n10_ := Aside0.mk (below_step (by repeat (first | (with_reducible first | exact HB.out | apply below_alloc | apply pw_below_drewN | apply below_drew1 | refine below_set ?_ GE313.out | refine below_set ?_ GE314.out | refine below_set ?_ GE321.out | refine below_set ?_ GE327.out | refine below_set ?_ GE336.out | refine below_set ?_ GE344.out) | exact HB.out)) hb)
             clear HO319
             clear HO325
             clear HO332
             clear HO340
             clear BK313
             clear BK314
             clear BK321
             clear BK327
             clear BK336
             clear BK344
             clear HB
             have HO319 := n0_
             have HO325 := n1_
             have HO332 := n2_
             have HO340 := n3_
             have BK313 := n4_
             have BK314 := n5_
             have BK321 := n6_
             have BK327 := n7_
             have BK336 := n8_
             have BK344 := n9_
             have HB := n10_
             clear n0_ n1_ n2_ n3_ n4_ n5_ n6_ n7_ n8_ n9_ n10_
             (try clear hb)
             (try clear hb2)
             (try clear hk)
             (try clear hi)
             refine hK.out _ _ ⟨(blk_cell BK321.out 0).trans rfl, (blk_cell BK321.out 1).trans rfl, (blk_cell BK321.out 2).trans rfl, (blk_cell BK336.out 0).trans rfl, (blk_cell BK336.out 1).trans rfl, (blk_cell BK336.out 2).trans rfl, (blk_cell BK327.out 0).trans rfl, (blk_cell BK327.out 1).trans rfl, (blk_cell BK327.out 2).trans rfl⟩ (fun hHeld => ?_)
             clear hK K
             refine norm_ (a' := ?_) ?_ ?_
             rotate_left
             ·show Act.put _ (some 91) _ = _
              simp only [Act.put, List.setIfInBounds_toArray, List.set_cons_zero, List.set_cons_succ, i64_w, i32_w]
              rfl
             refine pY 39 92 #[J_,J_,J_,J_,J_,J_,J_,J_,J_,J_,J_,J_,J_,J_,J_,J_,J_,J_,J_,J_,J_,J_,J_,J_,J_,J_,J_,J_,J_,J_,J_,J_,J_,J_,J_,J_,J_,J_,J_,J_,J_,J_,N_,N_,N_,N_,N_] HT_.out ?_
             refine one_ (i := 42) (N := some 95) #[J_,J_,J_,J_,J_,J_,J_,J_,J_,J_,J_,J_,J_,J_,J_,J_,J_,J_,J_,J_,J_,J_,J_,J_,J_,J_,J_,J_,J_,J_,J_,J_,J_,J_,J_,J_,J_,J_,J_,J_,J_,J_,J_,N_,N_,N_,N_] rfl rfl (one_of HT_.out (by kernel_rfl)) (by decide) (fun K hK => ?_)
             refine goes_ Tryd.func12 (by kernel_rfl) rfl #[.agg #[.int .i64 t316, .slice Ao39 t317.length co39, .string t320], .agg #[.int .i64 t322, .slice Ao48 t323.length co48, .string t326]] (by rfl) rfl rfl ml ?_
             with_reducible refine (entry_Same.calls k t316 _ _ t317 t320 t322 _ _ t323 t326 t349 _ ?side1 ?side2 ?side3 ?side4 A28.out).mono ?_
             (case side1 => repeat (first | exact (Kd.V_reads' HO319.out).2.2 | (with_reducible refine Kd.C_alloc ?_ _) | (with_reducible refine Kd.C_drewN ?_ _) | (with_reducible refine Kd.C_drew ?_)))
             (case side2 => exact (Kd.V_reads' HO319.out).2.1)
             (case side3 => repeat (first | exact (Kd.V_reads' HO325.out).2.2 | (with_reducible refine Kd.C_alloc ?_ _) | (with_reducible refine Kd.C_drewN ?_ _) | (with_reducible refine Kd.C_drew ?_)))
             (case side4 => exact (Kd.V_reads' HO325.out).2.1)
             rintro e w74 ⟨rfl, hb⟩
             refine ⟨_, rfl, ?_⟩
             have n0_ := Aside0.mk (Kd.V_below (by (with_reducible repeat (first | apply Kd.V_alloc | apply Kd.V_drewN | apply Kd.V_drew)); exact HO319.out) hb)
             have n1_ := Aside0.mk (Kd.V_below (by (with_reducible repeat (first | apply Kd.V_alloc | apply Kd.V_drewN | apply Kd.V_drew)); exact HO325.out) hb)
             have n2_ := Aside0.mk (Kd.R_below (rz HO332.out) hb)
             have n3_ := Aside0.mk (Kd.R_below (rz HO340.out) hb)
             have n4_ := Aside0.mk (blk_below (g := gb313) (o := .cells #[.int .i64 a0_0, .slice A0_1 l0_1.length c0_1, .string a0_2, .bool a0_3, .int .i8 a0_4, .slice A0_5 l0_5.length c0_5, .int .u8 a0_6] 29 (0, 0)) (bz BK313.out) hb)
             have n5_ := Aside0.mk (blk_below (g := gb314) (o := .cells #[.int .i64 a1_0, .slice A1_1 l1_1.length c1_1, .string a1_2, .bool a1_3, .int .i8 a1_4, .slice A1_5 l1_5.length c1_5, .int .u8 a1_6] 29 (0, 0)) (bz BK314.out) hb)
             have n6_ := Aside0.mk (blk_below (g := gb321) (o := .cells #[.int .i64 t316, .slice Ao39 t317.length co39, .string t320] 25 (0, 0)) (bz BK321.out) hb)
             have n7_ := Aside0.mk (blk_below (g := gb327) (o := .cells #[.int .i64 t322, .slice Ao48 t323.length co48, .string t326] 25 (0, 0)) (bz BK327.out) hb)
             have n8_ := Aside0.mk (blk_below (g := gb336) (o := .cells #[.int .i64 t329, .slice Ao58 t330.length co58, .string t333] 25 (0, 0)) (bz BK336.out) hb)
             have n9_ := Aside0.mk (blk_below (g := gb344) (o := .cells #[.int .i64 t337, .slice Ao67 t338.length co67, .string t341] 25 (0, 0)) (bz BK344.out) hb)
             have n10_ := Aside0.mk (below_step (by repeat (first | (with_reducible first | exact HB.out | apply below_alloc | apply pw_below_drewN | apply below_drew1 | refine below_set ?_ GE313.out | refine below_set ?_ GE314.out | refine below_set ?_ GE321.out | refine below_set ?_ GE327.out | refine below_set ?_ GE336.out | refine below_set ?_ GE344.out) | exact HB.out)) hb)
             clear HO319
             clear HO325
             clear HO332
             clear HO340
             clear BK313
             clear BK314
             clear BK321
             clear BK327
             clear BK336
             clear BK344
             clear HB
             have HO319 := n0_
             have HO325 := n1_
             have HO332 := n2_
             have HO340 := n3_
             have BK313 := n4_
             have BK314 := n5_
             have BK321 := n6_
             have BK327 := n7_
             have BK336 := n8_
             have BK344 := n9_
             have HB := n10_
             clear n0_ n1_ n2_ n3_ n4_ n5_ n6_ n7_ n8_ n9_ n10_
             (try clear hb)
             (try clear hb2)
             (try clear hk)
             (try clear hi)
             refine hK.out _ _ ⟨(blk_cell BK321.out 0).trans rfl, (blk_cell BK321.out 1).trans rfl, (blk_cell BK321.out 2).trans rfl, (blk_cell BK336.out 0).trans rfl, (blk_cell BK336.out 1).trans rfl, (blk_cell BK336.out 2).trans rfl, (blk_cell BK327.out 0).trans rfl, (blk_cell BK327.out 1).trans rfl, (blk_cell BK327.out 2).trans rfl⟩ (fun hHeld => ?_)
             clear hK K
             refine norm_ (a' := ?_) ?_ ?_
             rotate_left
             ·show Act.put _ (some 95) _ = _
              simp only [Act.put, List.setIfInBounds_toArray, List.set_cons_zero, List.set_cons_succ, i64_w, i32_w]
              rfl
             refine pY 43 96 #[J_,J_,J_,J_,J_,J_,J_,J_,J_,J_,J_,J_,J_,J_,J_,J_,J_,J_,J_,J_,J_,J_,J_,J_,J_,J_,J_,J_,J_,J_,J_,J_,J_,J_,J_,J_,J_,J_,J_,J_,J_,J_,J_,J_,N_,N_,N_] HT_.out ?_
             refine pY 44 97 #[J_,J_,J_,J_,J_,J_,J_,J_,J_,J_,J_,J_,J_,J_,J_,J_,J_,J_,J_,J_,J_,J_,J_,J_,J_,J_,J_,J_,J_,J_,J_,J_,J_,J_,J_,J_,J_,J_,J_,J_,J_,J_,J_,J_,J_,N_,N_] HT_.out ?_
             refine pY 45 98 #[J_,J_,J_,J_,J_,J_,J_,J_,J_,J_,J_,J_,J_,J_,J_,J_,J_,J_,J_,J_,J_,J_,J_,J_,J_,J_,J_,J_,J_,J_,J_,J_,J_,J_,J_,J_,J_,J_,J_,J_,J_,J_,J_,J_,J_,J_,N_] HT_.out ?_
             refine pY 46 8 #[J_,J_,J_,J_,J_,J_,J_,J_,J_,J_,J_,J_,J_,J_,J_,J_,J_,J_,J_,J_,J_,J_,J_,J_,J_,J_,J_,J_,J_,J_,J_,J_,J_,J_,J_,J_,J_,J_,J_,J_,J_,J_,J_,J_,J_,J_,J_] HT_.out ?_
             refine done_ (done_of HT_.out (by kernel_rfl)) ?_
             try go_wp2
             go_ret
             exact ⟨by first | rfl | (simp [errW_none, errW_some] <;> rfl) | (simp only [← hji14]; first | rfl | (simp [errW_none, errW_some] <;> rfl)) | (simp [*, errW_none, errW_some] <;> rfl), by repeat (first | (with_reducible first | exact HB.out | apply below_alloc | apply pw_below_drewN | apply below_drew1 | refine below_set ?_ GE313.out | refine below_set ?_ GE314.out | refine below_set ?_ GE321.out | refine below_set ?_ GE327.out | refine below_set ?_ GE336.out | refine below_set ?_ GE344.out) | exact HB.out)⟩
            ·replace c26 := Bool.eq_false_iff.mpr c26
             subst c26
             have H1 : (some true) = some r := by rw [if_neg (show ¬ (false = true) by decide)] at H; exact H
             clear H
             have H := H1
             clear H1
             obtain rfl := Option.some.inj H
             refine start_ (n := 47) (S := fun w' => w'.cell? ⟨gb321, 0, none⟩ = some (.int .i64 t316) ∧ w'.cell? ⟨gb321, 1, none⟩ = some (.slice Ao39 t317.length co39) ∧ w'.cell? ⟨gb321, 2, none⟩ = some (.string t320) ∧ w'.cell? ⟨gb336, 0, none⟩ = some (.int .i64 t329) ∧ w'.cell? ⟨gb336, 1, none⟩ = some (.slice Ao58 t330.length co58) ∧ w'.cell? ⟨gb336, 2, none⟩ = some (.string t333) ∧ w'.cell? ⟨gb327, 0, none⟩ = some (.int .i64 t322) ∧ w'.cell? ⟨gb327, 1, none⟩ = some (.slice Ao48 t323.length co48) ∧ w'.cell? ⟨gb327, 2, none⟩ = some (.string t326)) (ds := []) #[N_,N_,N_,N_,N_,N_,N_,N_,N_,N_,N_,N_,N_,N_,N_,N_,N_,N_,N_,N_,N_,N_,N_,N_,N_,N_,N_,N_,N_,N_,N_,N_,N_,N_,N_,N_,N_,N_,N_,N_,N_,N_,N_,N_,N_,N_,N_] (by kernel_rfl) rfl rfl ⟨(blk_cell BK321.out 0).trans rfl, (blk_cell BK321.out 1).trans rfl, (blk_cell BK321.out 2).trans rfl, (blk_cell BK336.out 0).trans rfl, (blk_cell BK336.out 1).trans rfl, (blk_cell BK336.out 2).trans rfl, (blk_cell BK327.out 0).trans rfl, (blk_cell BK327.out 1).trans rfl, (blk_cell BK327.out 2).trans rfl⟩ (fun hHeld => ?_); refine with_tabW archivistlaw13_EntryBack.tab12 archivistlaw13_EntryBack.bits12 (fun HT_ HW_ => ?_)
             generalize w69.drew = w116 at HO319 HO325 HO332 HO340 BK313 BK314 BK321 BK327 BK336 BK344 HB hHeld ⊢
             refine pY 0 53 #[J_,N_,N_,N_,N_,N_,N_,N_,N_,N_,N_,N_,N_,N_,N_,N_,N_,N_,N_,N_,N_,N_,N_,N_,N_,N_,N_,N_,N_,N_,N_,N_,N_,N_,N_,N_,N_,N_,N_,N_,N_,N_,N_,N_,N_,N_,N_] HT_.out ?_
             refine pY 1 54 #[J_,J_,N_,N_,N_,N_,N_,N_,N_,N_,N_,N_,N_,N_,N_,N_,N_,N_,N_,N_,N_,N_,N_,N_,N_,N_,N_,N_,N_,N_,N_,N_,N_,N_,N_,N_,N_,N_,N_,N_,N_,N_,N_,N_,N_,N_,N_] HT_.out ?_
             refine pY 2 55 #[J_,J_,J_,N_,N_,N_,N_,N_,N_,N_,N_,N_,N_,N_,N_,N_,N_,N_,N_,N_,N_,N_,N_,N_,N_,N_,N_,N_,N_,N_,N_,N_,N_,N_,N_,N_,N_,N_,N_,N_,N_,N_,N_,N_,N_,N_,N_] HT_.out ?_
             refine pY 3 56 #[J_,J_,J_,J_,N_,N_,N_,N_,N_,N_,N_,N_,N_,N_,N_,N_,N_,N_,N_,N_,N_,N_,N_,N_,N_,N_,N_,N_,N_,N_,N_,N_,N_,N_,N_,N_,N_,N_,N_,N_,N_,N_,N_,N_,N_,N_,N_] HT_.out ?_
             refine pY 4 57 #[J_,J_,J_,J_,J_,N_,N_,N_,N_,N_,N_,N_,N_,N_,N_,N_,N_,N_,N_,N_,N_,N_,N_,N_,N_,N_,N_,N_,N_,N_,N_,N_,N_,N_,N_,N_,N_,N_,N_,N_,N_,N_,N_,N_,N_,N_,N_] HT_.out ?_
             refine pY 5 58 #[J_,J_,J_,J_,J_,J_,N_,N_,N_,N_,N_,N_,N_,N_,N_,N_,N_,N_,N_,N_,N_,N_,N_,N_,N_,N_,N_,N_,N_,N_,N_,N_,N_,N_,N_,N_,N_,N_,N_,N_,N_,N_,N_,N_,N_,N_,N_] HT_.out ?_
             refine pY 6 59 #[J_,J_,J_,J_,J_,J_,J_,N_,N_,N_,N_,N_,N_,N_,N_,N_,N_,N_,N_,N_,N_,N_,N_,N_,N_,N_,N_,N_,N_,N_,N_,N_,N_,N_,N_,N_,N_,N_,N_,N_,N_,N_,N_,N_,N_,N_,N_] HT_.out ?_
             refine take_ (i := 7) (N := some 60) (v := ?_) (a' := ?_) #[J_,J_,J_,J_,J_,J_,J_,J_,N_,N_,N_,N_,N_,N_,N_,N_,N_,N_,N_,N_,N_,N_,N_,N_,N_,N_,N_,N_,N_,N_,N_,N_,N_,N_,N_,N_,N_,N_,N_,N_,N_,N_,N_,N_,N_,N_,N_] rfl rfl (take_ofW HT_.out HW_.out (by kernel_rfl)) (fun _ _ _ h => h) (Or.inl ⟨by rfl, ?_⟩) hHeld ?_ ?_
             rotate_left
             ·rintro w' ⟨s0, s1, s2, s3, s4, s5, s6, s7, s8⟩
              go_simp
              with_reducible rfl
             rotate_left
             ·simp only [Act.put, List.setIfInBounds_toArray, List.set_cons_zero, List.set_cons_succ, i64_w, i32_w]
              rfl
             refine take_ (i := 8) (N := some 61) (v := ?_) (a' := ?_) #[J_,J_,J_,J_,J_,J_,J_,J_,J_,N_,N_,N_,N_,N_,N_,N_,N_,N_,N_,N_,N_,N_,N_,N_,N_,N_,N_,N_,N_,N_,N_,N_,N_,N_,N_,N_,N_,N_,N_,N_,N_,N_,N_,N_,N_,N_,N_] rfl rfl (take_ofW HT_.out HW_.out (by kernel_rfl)) (fun _ _ _ h => h) (Or.inl ⟨by rfl, ?_⟩) hHeld ?_ ?_
             rotate_left
             ·rintro w' ⟨s0, s1, s2, s3, s4, s5, s6, s7, s8⟩
              go_simp
              with_reducible rfl
             rotate_left
             ·simp only [Act.put, List.setIfInBounds_toArray, List.set_cons_zero, List.set_cons_succ, i64_w, i32_w]
              rfl
             refine one_ (i := 9) (N := some 62) #[J_,J_,J_,J_,J_,J_,J_,J_,J_,J_,N_,N_,N_,N_,N_,N_,N_,N_,N_,N_,N_,N_,N_,N_,N_,N_,N_,N_,N_,N_,N_,N_,N_,N_,N_,N_,N_,N_,N_,N_,N_,N_,N_,N_,N_,N_,N_] rfl rfl (one_of HT_.out (by kernel_rfl)) (by decide) (fun K hK => ?_)
             refine goes_ Tryd.func12 (by kernel_rfl) rfl #[.agg #[.int .i64 t316, .slice Ao39 t317.length co39, .string t320], .agg #[.int .i64 t329, .slice Ao58 t330.length co58, .string t333]] (by rfl) rfl rfl ml ?_
             with_reducible refine (entry_Same.calls k t316 _ _ t317 t320 t329 _ _ t330 t333 true _ ?side1 ?side2 ?side3 ?side4 A21.out).mono ?_
             (case side1 => repeat (first | exact (Kd.V_reads' HO319.out).2.2 | (with_reducible refine Kd.C_alloc ?_ _) | (with_reducible refine Kd.C_drewN ?_ _) | (with_reducible refine Kd.C_drew ?_)))
             (case side2 => exact (Kd.V_reads' HO319.out).2.1)
             (case side3 => exact cz (Kd.R_reads' HO332.out).2.2)
             (case side4 => exact (Kd.R_reads' HO332.out).2.1)
             rintro e w117 ⟨rfl, hb⟩
             refine ⟨_, rfl, ?_⟩
             have n0_ := Aside0.mk (Kd.V_below (by (with_reducible repeat (first | apply Kd.V_alloc | apply Kd.V_drewN | apply Kd.V_drew)); exact HO319.out) hb)
             have n1_ := Aside0.mk (Kd.V_below (by (with_reducible repeat (first | apply Kd.V_alloc | apply Kd.V_drewN | apply Kd.V_drew)); exact HO325.out) hb)
             have n2_ := Aside0.mk (Kd.R_below (rz HO332.out) hb)
             have n3_ := Aside0.mk (Kd.R_below (rz HO340.out) hb)
             have n4_ := Aside0.mk (blk_below (g := gb313) (o := .cells #[.int .i64 a0_0, .slice A0_1 l0_1.length c0_1, .string a0_2, .bool a0_3, .int .i8 a0_4, .slice A0_5 l0_5.length c0_5, .int .u8 a0_6] 29 (0, 0)) (bz BK313.out) hb)
             have n5_ := Aside0.mk (blk_below (g := gb314) (o := .cells #[.int .i64 a1_0, .slice A1_1 l1_1.length c1_1, .string a1_2, .bool a1_3, .int .i8 a1_4, .slice A1_5 l1_5.length c1_5, .int .u8 a1_6] 29 (0, 0)) (bz BK314.out) hb)
             have n6_ := Aside0.mk (blk_below (g := gb321) (o := .cells #[.int .i64 t316, .slice Ao39 t317.length co39, .string t320] 25 (0, 0)) (bz BK321.out) hb)
             have n7_ := Aside0.mk (blk_below (g := gb327) (o := .cells #[.int .i64 t322, .slice Ao48 t323.length co48, .string t326] 25 (0, 0)) (bz BK327.out) hb)
             have n8_ := Aside0.mk (blk_below (g := gb336) (o := .cells #[.int .i64 t329, .slice Ao58 t330.length co58, .string t333] 25 (0, 0)) (bz BK336.out) hb)
             have n9_ := Aside0.mk (blk_below (g := gb344) (o := .cells #[.int .i64 t337, .slice Ao67 t338.length co67, .string t341] 25 (0, 0)) (bz BK344.out) hb)
             have n10_ := Aside0.mk (below_step (by repeat (first | (with_reducible first | exact HB.out | apply below_alloc | apply pw_below_drewN | apply below_drew1 | refine below_set ?_ GE313.out | refine below_set ?_ GE314.out | refine below_set ?_ GE321.out | refine below_set ?_ GE327.out | refine below_set ?_ GE336.out | refine below_set ?_ GE344.out) | exact HB.out)) hb)
             clear HO319
             clear HO325
             clear HO332
             clear HO340
             clear BK313
             clear BK314
             clear BK321
             clear BK327
             clear BK336
             clear BK344
             clear HB
             have HO319 := n0_
             have HO325 := n1_
             have HO332 := n2_
             have HO340 := n3_
             have BK313 := n4_
             have BK314 := n5_
             have BK321 := n6_
             have BK327 := n7_
             have BK336 := n8_
             have BK344 := n9_
             have HB := n10_
             clear n0_ n1_ n2_ n3_ n4_ n5_ n6_ n7_ n8_ n9_ n10_
             (try clear hb)
             (try clear hb2)
             (try clear hk)
             (try clear hi)
             refine hK.out _ _ ⟨(blk_cell BK321.out 0).trans rfl, (blk_cell BK321.out 1).trans rfl, (blk_cell BK321.out 2).trans rfl, (blk_cell BK336.out 0).trans rfl, (blk_cell BK336.out 1).trans rfl, (blk_cell BK336.out 2).trans rfl, (blk_cell BK327.out 0).trans rfl, (blk_cell BK327.out 1).trans rfl, (blk_cell BK327.out 2).trans rfl⟩ (fun hHeld => ?_)
             clear hK K
             refine norm_ (a' := ?_) ?_ ?_
             rotate_left
             ·show Act.put _ (some 62) _ = _
              simp only [Act.put, List.setIfInBounds_toArray, List.set_cons_zero, List.set_cons_succ, i64_w, i32_w]
              rfl
             refine pY 10 63 #[J_,J_,J_,J_,J_,J_,J_,J_,J_,J_,J_,N_,N_,N_,N_,N_,N_,N_,N_,N_,N_,N_,N_,N_,N_,N_,N_,N_,N_,N_,N_,N_,N_,N_,N_,N_,N_,N_,N_,N_,N_,N_,N_,N_,N_,N_,N_] HT_.out ?_
             refine pY 11 64 #[J_,J_,J_,J_,J_,J_,J_,J_,J_,J_,J_,J_,N_,N_,N_,N_,N_,N_,N_,N_,N_,N_,N_,N_,N_,N_,N_,N_,N_,N_,N_,N_,N_,N_,N_,N_,N_,N_,N_,N_,N_,N_,N_,N_,N_,N_,N_] HT_.out ?_
             refine pY 12 65 #[J_,J_,J_,J_,J_,J_,J_,J_,J_,J_,J_,J_,J_,N_,N_,N_,N_,N_,N_,N_,N_,N_,N_,N_,N_,N_,N_,N_,N_,N_,N_,N_,N_,N_,N_,N_,N_,N_,N_,N_,N_,N_,N_,N_,N_,N_,N_] HT_.out ?_
             refine pY 13 66 #[J_,J_,J_,J_,J_,J_,J_,J_,J_,J_,J_,J_,J_,J_,N_,N_,N_,N_,N_,N_,N_,N_,N_,N_,N_,N_,N_,N_,N_,N_,N_,N_,N_,N_,N_,N_,N_,N_,N_,N_,N_,N_,N_,N_,N_,N_,N_] HT_.out ?_
             refine pY 14 67 #[J_,J_,J_,J_,J_,J_,J_,J_,J_,J_,J_,J_,J_,J_,J_,N_,N_,N_,N_,N_,N_,N_,N_,N_,N_,N_,N_,N_,N_,N_,N_,N_,N_,N_,N_,N_,N_,N_,N_,N_,N_,N_,N_,N_,N_,N_,N_] HT_.out ?_
             refine pY 15 68 #[J_,J_,J_,J_,J_,J_,J_,J_,J_,J_,J_,J_,J_,J_,J_,J_,N_,N_,N_,N_,N_,N_,N_,N_,N_,N_,N_,N_,N_,N_,N_,N_,N_,N_,N_,N_,N_,N_,N_,N_,N_,N_,N_,N_,N_,N_,N_] HT_.out ?_
             refine pY 16 69 #[J_,J_,J_,J_,J_,J_,J_,J_,J_,J_,J_,J_,J_,J_,J_,J_,J_,N_,N_,N_,N_,N_,N_,N_,N_,N_,N_,N_,N_,N_,N_,N_,N_,N_,N_,N_,N_,N_,N_,N_,N_,N_,N_,N_,N_,N_,N_] HT_.out ?_
             refine pY 17 70 #[J_,J_,J_,J_,J_,J_,J_,J_,J_,J_,J_,J_,J_,J_,J_,J_,J_,J_,N_,N_,N_,N_,N_,N_,N_,N_,N_,N_,N_,N_,N_,N_,N_,N_,N_,N_,N_,N_,N_,N_,N_,N_,N_,N_,N_,N_,N_] HT_.out ?_
             refine pY 18 71 #[J_,J_,J_,J_,J_,J_,J_,J_,J_,J_,J_,J_,J_,J_,J_,J_,J_,J_,J_,N_,N_,N_,N_,N_,N_,N_,N_,N_,N_,N_,N_,N_,N_,N_,N_,N_,N_,N_,N_,N_,N_,N_,N_,N_,N_,N_,N_] HT_.out ?_
             refine pY 19 72 #[J_,J_,J_,J_,J_,J_,J_,J_,J_,J_,J_,J_,J_,J_,J_,J_,J_,J_,J_,J_,N_,N_,N_,N_,N_,N_,N_,N_,N_,N_,N_,N_,N_,N_,N_,N_,N_,N_,N_,N_,N_,N_,N_,N_,N_,N_,N_] HT_.out ?_
             refine pY 20 73 #[J_,J_,J_,J_,J_,J_,J_,J_,J_,J_,J_,J_,J_,J_,J_,J_,J_,J_,J_,J_,J_,N_,N_,N_,N_,N_,N_,N_,N_,N_,N_,N_,N_,N_,N_,N_,N_,N_,N_,N_,N_,N_,N_,N_,N_,N_,N_] HT_.out ?_
             refine pY 21 74 #[J_,J_,J_,J_,J_,J_,J_,J_,J_,J_,J_,J_,J_,J_,J_,J_,J_,J_,J_,J_,J_,J_,N_,N_,N_,N_,N_,N_,N_,N_,N_,N_,N_,N_,N_,N_,N_,N_,N_,N_,N_,N_,N_,N_,N_,N_,N_] HT_.out ?_
             refine pY 22 75 #[J_,J_,J_,J_,J_,J_,J_,J_,J_,J_,J_,J_,J_,J_,J_,J_,J_,J_,J_,J_,J_,J_,J_,N_,N_,N_,N_,N_,N_,N_,N_,N_,N_,N_,N_,N_,N_,N_,N_,N_,N_,N_,N_,N_,N_,N_,N_] HT_.out ?_
             refine pY 23 76 #[J_,J_,J_,J_,J_,J_,J_,J_,J_,J_,J_,J_,J_,J_,J_,J_,J_,J_,J_,J_,J_,J_,J_,J_,N_,N_,N_,N_,N_,N_,N_,N_,N_,N_,N_,N_,N_,N_,N_,N_,N_,N_,N_,N_,N_,N_,N_] HT_.out ?_
             refine pY 24 77 #[J_,J_,J_,J_,J_,J_,J_,J_,J_,J_,J_,J_,J_,J_,J_,J_,J_,J_,J_,J_,J_,J_,J_,J_,J_,N_,N_,N_,N_,N_,N_,N_,N_,N_,N_,N_,N_,N_,N_,N_,N_,N_,N_,N_,N_,N_,N_] HT_.out ?_
             refine pY 25 78 #[J_,J_,J_,J_,J_,J_,J_,J_,J_,J_,J_,J_,J_,J_,J_,J_,J_,J_,J_,J_,J_,J_,J_,J_,J_,J_,N_,N_,N_,N_,N_,N_,N_,N_,N_,N_,N_,N_,N_,N_,N_,N_,N_,N_,N_,N_,N_] HT_.out ?_
             refine pY 26 79 #[J_,J_,J_,J_,J_,J_,J_,J_,J_,J_,J_,J_,J_,J_,J_,J_,J_,J_,J_,J_,J_,J_,J_,J_,J_,J_,J_,N_,N_,N_,N_,N_,N_,N_,N_,N_,N_,N_,N_,N_,N_,N_,N_,N_,N_,N_,N_] HT_.out ?_
             refine pY 27 80 #[J_,J_,J_,J_,J_,J_,J_,J_,J_,J_,J_,J_,J_,J_,J_,J_,J_,J_,J_,J_,J_,J_,J_,J_,J_,J_,J_,J_,N_,N_,N_,N_,N_,N_,N_,N_,N_,N_,N_,N_,N_,N_,N_,N_,N_,N_,N_] HT_.out ?_
             refine pY 28 81 #[J_,J_,J_,J_,J_,J_,J_,J_,J_,J_,J_,J_,J_,J_,J_,J_,J_,J_,J_,J_,J_,J_,J_,J_,J_,J_,J_,J_,J_,N_,N_,N_,N_,N_,N_,N_,N_,N_,N_,N_,N_,N_,N_,N_,N_,N_,N_] HT_.out ?_
             refine pY 29 82 #[J_,J_,J_,J_,J_,J_,J_,J_,J_,J_,J_,J_,J_,J_,J_,J_,J_,J_,J_,J_,J_,J_,J_,J_,J_,J_,J_,J_,J_,J_,N_,N_,N_,N_,N_,N_,N_,N_,N_,N_,N_,N_,N_,N_,N_,N_,N_] HT_.out ?_
             refine pY 30 83 #[J_,J_,J_,J_,J_,J_,J_,J_,J_,J_,J_,J_,J_,J_,J_,J_,J_,J_,J_,J_,J_,J_,J_,J_,J_,J_,J_,J_,J_,J_,J_,N_,N_,N_,N_,N_,N_,N_,N_,N_,N_,N_,N_,N_,N_,N_,N_] HT_.out ?_
             refine take_ (i := 31) (N := some 84) (v := ?_) (a' := ?_) #[J_,J_,J_,J_,J_,J_,J_,J_,J_,J_,J_,J_,J_,J_,J_,J_,J_,J_,J_,J_,J_,J_,J_,J_,J_,J_,J_,J_,J_,J_,J_,J_,N_,N_,N_,N_,N_,N_,N_,N_,N_,N_,N_,N_,N_,N_,N_] rfl rfl (take_ofW HT_.out HW_.out (by kernel_rfl)) (fun _ _ _ h => h) (Or.inl ⟨by rfl, ?_⟩) hHeld ?_ ?_
             rotate_left
             ·rintro w' ⟨s0, s1, s2, s3, s4, s5, s6, s7, s8⟩
              go_simp
              with_reducible rfl
             rotate_left
             ·simp only [Act.put, List.setIfInBounds_toArray, List.set_cons_zero, List.set_cons_succ, i64_w, i32_w]
              rfl
             refine one_ (i := 32) (N := some 85) #[J_,J_,J_,J_,J_,J_,J_,J_,J_,J_,J_,J_,J_,J_,J_,J_,J_,J_,J_,J_,J_,J_,J_,J_,J_,J_,J_,J_,J_,J_,J_,J_,J_,N_,N_,N_,N_,N_,N_,N_,N_,N_,N_,N_,N_,N_,N_] rfl rfl (one_of HT_.out (by kernel_rfl)) (by decide) (fun K hK => ?_)
             refine goes_ Tryd.func11 (by kernel_rfl) rfl #[.agg #[.int .i64 t322, .slice Ao48 t323.length co48, .string t326]] (by rfl) rfl rfl ml ?_
             with_reducible refine (entry_Right.calls k t322 _ _ t323 t326 false _ ?side1 ?side2 A25.out).mono ?_
             (case side1 => repeat (first | exact (Kd.V_reads' HO325.out).2.2 | (with_reducible refine Kd.C_alloc ?_ _) | (with_reducible refine Kd.C_drewN ?_ _) | (with_reducible refine Kd.C_drew ?_)))
             (case side2 => exact (Kd.V_reads' HO325.out).2.1)
             rintro e w118 ⟨rfl, hb⟩
             refine ⟨_, rfl, ?_⟩
             have n0_ := Aside0.mk (Kd.V_below (by (with_reducible repeat (first | apply Kd.V_alloc | apply Kd.V_drewN | apply Kd.V_drew)); exact HO319.out) hb)
             have n1_ := Aside0.mk (Kd.V_below (by (with_reducible repeat (first | apply Kd.V_alloc | apply Kd.V_drewN | apply Kd.V_drew)); exact HO325.out) hb)
             have n2_ := Aside0.mk (Kd.R_below (rz HO332.out) hb)
             have n3_ := Aside0.mk (Kd.R_below (rz HO340.out) hb)
             have n4_ := Aside0.mk (blk_below (g := gb313) (o := .cells #[.int .i64 a0_0, .slice A0_1 l0_1.length c0_1, .string a0_2, .bool a0_3, .int .i8 a0_4, .slice A0_5 l0_5.length c0_5, .int .u8 a0_6] 29 (0, 0)) (bz BK313.out) hb)
             have n5_ := Aside0.mk (blk_below (g := gb314) (o := .cells #[.int .i64 a1_0, .slice A1_1 l1_1.length c1_1, .string a1_2, .bool a1_3, .int .i8 a1_4, .slice A1_5 l1_5.length c1_5, .int .u8 a1_6] 29 (0, 0)) (bz BK314.out) hb)
             have n6_ := Aside0.mk (blk_below (g := gb321) (o := .cells #[.int .i64 t316, .slice Ao39 t317.length co39, .string t320] 25 (0, 0)) (bz BK321.out) hb)
             have n7_ := Aside0.mk (blk_below (g := gb327) (o := .cells #[.int .i64 t322, .slice Ao48 t323.length co48, .string t326] 25 (0, 0)) (bz BK327.out) hb)
             have n8_ := Aside0.mk (blk_below (g := gb336) (o := .cells #[.int .i64 t329, .slice Ao58 t330.length co58, .string t333] 25 (0, 0)) (bz BK336.out) hb)
             have n9_ := Aside0.mk (blk_below (g := gb344) (o := .cells #[.int .i64 t337, .slice Ao67 t338.length co67, .string t341] 25 (0, 0)) (bz BK344.out) hb)
             have n10_ := Aside0.mk (below_step (by repeat (first | (with_reducible first | exact HB.out | apply below_alloc | apply pw_below_drewN | apply below_drew1 | refine below_set ?_ GE313.out | refine below_set ?_ GE314.out | refine below_set ?_ GE321.out | refine below_set ?_ GE327.out | refine below_set ?_ GE336.out | refine below_set ?_ GE344.out) | exact HB.out)) hb)
             clear HO319
             clear HO325
             clear HO332
             clear HO340
             clear BK313
             clear BK314
             clear BK321
             clear BK327
             clear BK336
             clear BK344
             clear HB
             have HO319 := n0_
             have HO325 := n1_
             have HO332 := n2_
             have HO340 := n3_
             have BK313 := n4_
             have BK314 := n5_
             have BK321 := n6_
             have BK327 := n7_
             have BK336 := n8_
             have BK344 := n9_
             have HB := n10_
             clear n0_ n1_ n2_ n3_ n4_ n5_ n6_ n7_ n8_ n9_ n10_
             (try clear hb)
             (try clear hb2)
             (try clear hk)
             (try clear hi)
             refine hK.out _ _ ⟨(blk_cell BK321.out 0).trans rfl, (blk_cell BK321.out 1).trans rfl, (blk_cell BK321.out 2).trans rfl, (blk_cell BK336.out 0).trans rfl, (blk_cell BK336.out 1).trans rfl, (blk_cell BK336.out 2).trans rfl, (blk_cell BK327.out 0).trans rfl, (blk_cell BK327.out 1).trans rfl, (blk_cell BK327.out 2).trans rfl⟩ (fun hHeld => ?_)
             clear hK K
             refine norm_ (a' := ?_) ?_ ?_
             rotate_left
             ·show Act.put _ (some 85) _ = _
              simp only [Act.put, List.setIfInBounds_toArray, List.set_cons_zero, List.set_cons_succ, i64_w, i32_w]
              rfl
             refine pY 33 86 #[J_,J_,J_,J_,J_,J_,J_,J_,J_,J_,J_,J_,J_,J_,J_,J_,J_,J_,J_,J_,J_,J_,J_,J_,J_,J_,J_,J_,J_,J_,J_,J_,J_,J_,N_,N_,N_,N_,N_,N_,N_,N_,N_,N_,N_,N_,N_] HT_.out ?_
             refine pY 34 87 #[J_,J_,J_,J_,J_,J_,J_,J_,J_,J_,J_,J_,J_,J_,J_,J_,J_,J_,J_,J_,J_,J_,J_,J_,J_,J_,J_,J_,J_,J_,J_,J_,J_,J_,J_,N_,N_,N_,N_,N_,N_,N_,N_,N_,N_,N_,N_] HT_.out ?_
             refine pY 35 88 #[J_,J_,J_,J_,J_,J_,J_,J_,J_,J_,J_,J_,J_,J_,J_,J_,J_,J_,J_,J_,J_,J_,J_,J_,J_,J_,J_,J_,J_,J_,J_,J_,J_,J_,J_,J_,N_,N_,N_,N_,N_,N_,N_,N_,N_,N_,N_] HT_.out ?_
             refine pU 36 89 #[J_,J_,J_,J_,J_,J_,J_,J_,J_,J_,J_,J_,J_,J_,J_,J_,J_,J_,J_,J_,J_,J_,J_,J_,J_,J_,J_,J_,J_,J_,J_,J_,J_,J_,J_,J_,J_,N_,N_,N_,N_,N_,N_,N_,N_,N_,N_] HT_.out ?_
             refine pU 37 90 #[J_,J_,J_,J_,J_,J_,J_,J_,J_,J_,J_,J_,J_,J_,J_,J_,J_,J_,J_,J_,J_,J_,J_,J_,J_,J_,J_,J_,J_,J_,J_,J_,J_,J_,J_,J_,J_,J_,N_,N_,N_,N_,N_,N_,N_,N_,N_] HT_.out ?_
             refine pU 38 91 #[J_,J_,J_,J_,J_,J_,J_,J_,J_,J_,J_,J_,J_,J_,J_,J_,J_,J_,J_,J_,J_,J_,J_,J_,J_,J_,J_,J_,J_,J_,J_,J_,J_,J_,J_,J_,J_,J_,J_,N_,N_,N_,N_,N_,N_,N_,N_] HT_.out ?_
             refine pU 39 92 #[J_,J_,J_,J_,J_,J_,J_,J_,J_,J_,J_,J_,J_,J_,J_,J_,J_,J_,J_,J_,J_,J_,J_,J_,J_,J_,J_,J_,J_,J_,J_,J_,J_,J_,J_,J_,J_,J_,J_,J_,N_,N_,N_,N_,N_,N_,N_] HT_.out ?_
             refine pU 40 93 #[J_,J_,J_,J_,J_,J_,J_,J_,J_,J_,J_,J_,J_,J_,J_,J_,J_,J_,J_,J_,J_,J_,J_,J_,J_,J_,J_,J_,J_,J_,J_,J_,J_,J_,J_,J_,J_,J_,J_,J_,J_,N_,N_,N_,N_,N_,N_] HT_.out ?_
             refine pU 41 94 #[J_,J_,J_,J_,J_,J_,J_,J_,J_,J_,J_,J_,J_,J_,J_,J_,J_,J_,J_,J_,J_,J_,J_,J_,J_,J_,J_,J_,J_,J_,J_,J_,J_,J_,J_,J_,J_,J_,J_,J_,J_,J_,N_,N_,N_,N_,N_] HT_.out ?_
             refine pU 42 95 #[J_,J_,J_,J_,J_,J_,J_,J_,J_,J_,J_,J_,J_,J_,J_,J_,J_,J_,J_,J_,J_,J_,J_,J_,J_,J_,J_,J_,J_,J_,J_,J_,J_,J_,J_,J_,J_,J_,J_,J_,J_,J_,J_,N_,N_,N_,N_] HT_.out ?_
             refine pU 43 96 #[J_,J_,J_,J_,J_,J_,J_,J_,J_,J_,J_,J_,J_,J_,J_,J_,J_,J_,J_,J_,J_,J_,J_,J_,J_,J_,J_,J_,J_,J_,J_,J_,J_,J_,J_,J_,J_,J_,J_,J_,J_,J_,J_,J_,N_,N_,N_] HT_.out ?_
             refine pY 44 97 #[J_,J_,J_,J_,J_,J_,J_,J_,J_,J_,J_,J_,J_,J_,J_,J_,J_,J_,J_,J_,J_,J_,J_,J_,J_,J_,J_,J_,J_,J_,J_,J_,J_,J_,J_,J_,J_,J_,J_,J_,J_,J_,J_,J_,J_,N_,N_] HT_.out ?_
             refine pY 45 98 #[J_,J_,J_,J_,J_,J_,J_,J_,J_,J_,J_,J_,J_,J_,J_,J_,J_,J_,J_,J_,J_,J_,J_,J_,J_,J_,J_,J_,J_,J_,J_,J_,J_,J_,J_,J_,J_,J_,J_,J_,J_,J_,J_,J_,J_,J_,N_] HT_.out ?_
             refine pY 46 8 #[J_,J_,J_,J_,J_,J_,J_,J_,J_,J_,J_,J_,J_,J_,J_,J_,J_,J_,J_,J_,J_,J_,J_,J_,J_,J_,J_,J_,J_,J_,J_,J_,J_,J_,J_,J_,J_,J_,J_,J_,J_,J_,J_,J_,J_,J_,J_] HT_.out ?_
             refine done_ (done_of HT_.out (by kernel_rfl)) ?_
             try go_wp2
             go_ret
             exact ⟨by first | rfl | (simp [errW_none, errW_some] <;> rfl) | (simp only [← hji14]; first | rfl | (simp [errW_none, errW_some] <;> rfl)) | (simp [*, errW_none, errW_some] <;> rfl), by repeat (first | (with_reducible first | exact HB.out | apply below_alloc | apply pw_below_drewN | apply below_drew1 | refine below_set ?_ GE313.out | refine below_set ?_ GE314.out | refine below_set ?_ GE321.out | refine below_set ?_ GE327.out | refine below_set ?_ GE336.out | refine below_set ?_ GE344.out) | exact HB.out)⟩
          ·rw [if_neg c23] at H
           have c23b0 : (t334 == (t328.size : Int)) = false := beq_eq_false_iff_ne.mpr c23
           have c23b1 : (t334 != (t328.size : Int)) = true := bne_iff_ne.mpr c23
           exact absurd H (by simp)
         ·replace c22 := Bool.eq_false_iff.mpr c22
          subst c22
          have H1 : (none) = some r := by rw [if_neg (show ¬ (false = true) by decide)] at H; exact H
          clear H
          have H := H1
          clear H1
          exact absurd H (by simp)
        ·replace c20 := Bool.eq_false_iff.mpr c20
         subst c20
         have H1 : (none) = some r := by rw [if_neg (show ¬ (false = true) by decide)] at H; exact H
         clear H
         have H := H1
         clear H1
         exact absurd H (by simp)
       ·replace c19 := Bool.eq_false_iff.mpr c19
        subst c19
        have H1 : (some true) = some r := by rw [if_neg (show ¬ (false = true) by decide)] at H; exact H
        clear H
        have H := H1
        clear H1
        obtain rfl := Option.some.inj H
        refine start_ (n := 47) (S := fun w' => True) (ds := []) #[N_,N_,N_,N_,N_,N_,N_,N_,N_,N_,N_,N_,N_,N_,N_,N_,N_,N_,N_,N_,N_,N_,N_,N_,N_,N_,N_,N_,N_,N_,N_,N_,N_,N_,N_,N_,N_,N_,N_,N_,N_,N_,N_,N_,N_,N_,N_] (by kernel_rfl) rfl rfl trivial (fun hHeld => ?_); refine with_tabW archivistlaw13_EntryBack.tab12 archivistlaw13_EntryBack.bits12 (fun HT_ HW_ => ?_)
        generalize w69.drew = w160 at HO319 HO325 HO332 HO340 BK313 BK314 BK321 BK327 BK336 BK344 HB hHeld ⊢
        refine pY 0 53 #[J_,N_,N_,N_,N_,N_,N_,N_,N_,N_,N_,N_,N_,N_,N_,N_,N_,N_,N_,N_,N_,N_,N_,N_,N_,N_,N_,N_,N_,N_,N_,N_,N_,N_,N_,N_,N_,N_,N_,N_,N_,N_,N_,N_,N_,N_,N_] HT_.out ?_
        refine pY 1 54 #[J_,J_,N_,N_,N_,N_,N_,N_,N_,N_,N_,N_,N_,N_,N_,N_,N_,N_,N_,N_,N_,N_,N_,N_,N_,N_,N_,N_,N_,N_,N_,N_,N_,N_,N_,N_,N_,N_,N_,N_,N_,N_,N_,N_,N_,N_,N_] HT_.out ?_
        refine pY 2 55 #[J_,J_,J_,N_,N_,N_,N_,N_,N_,N_,N_,N_,N_,N_,N_,N_,N_,N_,N_,N_,N_,N_,N_,N_,N_,N_,N_,N_,N_,N_,N_,N_,N_,N_,N_,N_,N_,N_,N_,N_,N_,N_,N_,N_,N_,N_,N_] HT_.out ?_
        refine pY 3 56 #[J_,J_,J_,J_,N_,N_,N_,N_,N_,N_,N_,N_,N_,N_,N_,N_,N_,N_,N_,N_,N_,N_,N_,N_,N_,N_,N_,N_,N_,N_,N_,N_,N_,N_,N_,N_,N_,N_,N_,N_,N_,N_,N_,N_,N_,N_,N_] HT_.out ?_
        refine pY 4 57 #[J_,J_,J_,J_,J_,N_,N_,N_,N_,N_,N_,N_,N_,N_,N_,N_,N_,N_,N_,N_,N_,N_,N_,N_,N_,N_,N_,N_,N_,N_,N_,N_,N_,N_,N_,N_,N_,N_,N_,N_,N_,N_,N_,N_,N_,N_,N_] HT_.out ?_
        refine pU 5 58 #[J_,J_,J_,J_,J_,J_,N_,N_,N_,N_,N_,N_,N_,N_,N_,N_,N_,N_,N_,N_,N_,N_,N_,N_,N_,N_,N_,N_,N_,N_,N_,N_,N_,N_,N_,N_,N_,N_,N_,N_,N_,N_,N_,N_,N_,N_,N_] HT_.out ?_
        refine pU 6 59 #[J_,J_,J_,J_,J_,J_,J_,N_,N_,N_,N_,N_,N_,N_,N_,N_,N_,N_,N_,N_,N_,N_,N_,N_,N_,N_,N_,N_,N_,N_,N_,N_,N_,N_,N_,N_,N_,N_,N_,N_,N_,N_,N_,N_,N_,N_,N_] HT_.out ?_
        refine pU 7 60 #[J_,J_,J_,J_,J_,J_,J_,J_,N_,N_,N_,N_,N_,N_,N_,N_,N_,N_,N_,N_,N_,N_,N_,N_,N_,N_,N_,N_,N_,N_,N_,N_,N_,N_,N_,N_,N_,N_,N_,N_,N_,N_,N_,N_,N_,N_,N_] HT_.out ?_
        refine pU 8 61 #[J_,J_,J_,J_,J_,J_,J_,J_,J_,N_,N_,N_,N_,N_,N_,N_,N_,N_,N_,N_,N_,N_,N_,N_,N_,N_,N_,N_,N_,N_,N_,N_,N_,N_,N_,N_,N_,N_,N_,N_,N_,N_,N_,N_,N_,N_,N_] HT_.out ?_
        refine pU 9 62 #[J_,J_,J_,J_,J_,J_,J_,J_,J_,J_,N_,N_,N_,N_,N_,N_,N_,N_,N_,N_,N_,N_,N_,N_,N_,N_,N_,N_,N_,N_,N_,N_,N_,N_,N_,N_,N_,N_,N_,N_,N_,N_,N_,N_,N_,N_,N_] HT_.out ?_
        refine pU 10 63 #[J_,J_,J_,J_,J_,J_,J_,J_,J_,J_,J_,N_,N_,N_,N_,N_,N_,N_,N_,N_,N_,N_,N_,N_,N_,N_,N_,N_,N_,N_,N_,N_,N_,N_,N_,N_,N_,N_,N_,N_,N_,N_,N_,N_,N_,N_,N_] HT_.out ?_
        refine pU 11 64 #[J_,J_,J_,J_,J_,J_,J_,J_,J_,J_,J_,J_,N_,N_,N_,N_,N_,N_,N_,N_,N_,N_,N_,N_,N_,N_,N_,N_,N_,N_,N_,N_,N_,N_,N_,N_,N_,N_,N_,N_,N_,N_,N_,N_,N_,N_,N_] HT_.out ?_
        refine pU 12 65 #[J_,J_,J_,J_,J_,J_,J_,J_,J_,J_,J_,J_,J_,N_,N_,N_,N_,N_,N_,N_,N_,N_,N_,N_,N_,N_,N_,N_,N_,N_,N_,N_,N_,N_,N_,N_,N_,N_,N_,N_,N_,N_,N_,N_,N_,N_,N_] HT_.out ?_
        refine pU 13 66 #[J_,J_,J_,J_,J_,J_,J_,J_,J_,J_,J_,J_,J_,J_,N_,N_,N_,N_,N_,N_,N_,N_,N_,N_,N_,N_,N_,N_,N_,N_,N_,N_,N_,N_,N_,N_,N_,N_,N_,N_,N_,N_,N_,N_,N_,N_,N_] HT_.out ?_
        refine pU 14 67 #[J_,J_,J_,J_,J_,J_,J_,J_,J_,J_,J_,J_,J_,J_,J_,N_,N_,N_,N_,N_,N_,N_,N_,N_,N_,N_,N_,N_,N_,N_,N_,N_,N_,N_,N_,N_,N_,N_,N_,N_,N_,N_,N_,N_,N_,N_,N_] HT_.out ?_
        refine pU 15 68 #[J_,J_,J_,J_,J_,J_,J_,J_,J_,J_,J_,J_,J_,J_,J_,J_,N_,N_,N_,N_,N_,N_,N_,N_,N_,N_,N_,N_,N_,N_,N_,N_,N_,N_,N_,N_,N_,N_,N_,N_,N_,N_,N_,N_,N_,N_,N_] HT_.out ?_
        refine pU 16 69 #[J_,J_,J_,J_,J_,J_,J_,J_,J_,J_,J_,J_,J_,J_,J_,J_,J_,N_,N_,N_,N_,N_,N_,N_,N_,N_,N_,N_,N_,N_,N_,N_,N_,N_,N_,N_,N_,N_,N_,N_,N_,N_,N_,N_,N_,N_,N_] HT_.out ?_
        refine pY 17 70 #[J_,J_,J_,J_,J_,J_,J_,J_,J_,J_,J_,J_,J_,J_,J_,J_,J_,J_,N_,N_,N_,N_,N_,N_,N_,N_,N_,N_,N_,N_,N_,N_,N_,N_,N_,N_,N_,N_,N_,N_,N_,N_,N_,N_,N_,N_,N_] HT_.out ?_
        refine pY 18 71 #[J_,J_,J_,J_,J_,J_,J_,J_,J_,J_,J_,J_,J_,J_,J_,J_,J_,J_,J_,N_,N_,N_,N_,N_,N_,N_,N_,N_,N_,N_,N_,N_,N_,N_,N_,N_,N_,N_,N_,N_,N_,N_,N_,N_,N_,N_,N_] HT_.out ?_
        refine pY 19 72 #[J_,J_,J_,J_,J_,J_,J_,J_,J_,J_,J_,J_,J_,J_,J_,J_,J_,J_,J_,J_,N_,N_,N_,N_,N_,N_,N_,N_,N_,N_,N_,N_,N_,N_,N_,N_,N_,N_,N_,N_,N_,N_,N_,N_,N_,N_,N_] HT_.out ?_
        refine pY 20 73 #[J_,J_,J_,J_,J_,J_,J_,J_,J_,J_,J_,J_,J_,J_,J_,J_,J_,J_,J_,J_,J_,N_,N_,N_,N_,N_,N_,N_,N_,N_,N_,N_,N_,N_,N_,N_,N_,N_,N_,N_,N_,N_,N_,N_,N_,N_,N_] HT_.out ?_
        refine pY 21 74 #[J_,J_,J_,J_,J_,J_,J_,J_,J_,J_,J_,J_,J_,J_,J_,J_,J_,J_,J_,J_,J_,J_,N_,N_,N_,N_,N_,N_,N_,N_,N_,N_,N_,N_,N_,N_,N_,N_,N_,N_,N_,N_,N_,N_,N_,N_,N_] HT_.out ?_
        refine pY 22 75 #[J_,J_,J_,J_,J_,J_,J_,J_,J_,J_,J_,J_,J_,J_,J_,J_,J_,J_,J_,J_,J_,J_,J_,N_,N_,N_,N_,N_,N_,N_,N_,N_,N_,N_,N_,N_,N_,N_,N_,N_,N_,N_,N_,N_,N_,N_,N_] HT_.out ?_
        refine pU 23 76 #[J_,J_,J_,J_,J_,J_,J_,J_,J_,J_,J_,J_,J_,J_,J_,J_,J_,J_,J_,J_,J_,J_,J_,J_,N_,N_,N_,N_,N_,N_,N_,N_,N_,N_,N_,N_,N_,N_,N_,N_,N_,N_,N_,N_,N_,N_,N_] HT_.out ?_
        refine pU 24 77 #[J_,J_,J_,J_,J_,J_,J_,J_,J_,J_,J_,J_,J_,J_,J_,J_,J_,J_,J_,J_,J_,J_,J_,J_,J_,N_,N_,N_,N_,N_,N_,N_,N_,N_,N_,N_,N_,N_,N_,N_,N_,N_,N_,N_,N_,N_,N_] HT_.out ?_
        refine pY 25 78 #[J_,J_,J_,J_,J_,J_,J_,J_,J_,J_,J_,J_,J_,J_,J_,J_,J_,J_,J_,J_,J_,J_,J_,J_,J_,J_,N_,N_,N_,N_,N_,N_,N_,N_,N_,N_,N_,N_,N_,N_,N_,N_,N_,N_,N_,N_,N_] HT_.out ?_
        refine pY 26 79 #[J_,J_,J_,J_,J_,J_,J_,J_,J_,J_,J_,J_,J_,J_,J_,J_,J_,J_,J_,J_,J_,J_,J_,J_,J_,J_,J_,N_,N_,N_,N_,N_,N_,N_,N_,N_,N_,N_,N_,N_,N_,N_,N_,N_,N_,N_,N_] HT_.out ?_
        refine pY 27 80 #[J_,J_,J_,J_,J_,J_,J_,J_,J_,J_,J_,J_,J_,J_,J_,J_,J_,J_,J_,J_,J_,J_,J_,J_,J_,J_,J_,J_,N_,N_,N_,N_,N_,N_,N_,N_,N_,N_,N_,N_,N_,N_,N_,N_,N_,N_,N_] HT_.out ?_
        refine pY 28 81 #[J_,J_,J_,J_,J_,J_,J_,J_,J_,J_,J_,J_,J_,J_,J_,J_,J_,J_,J_,J_,J_,J_,J_,J_,J_,J_,J_,J_,J_,N_,N_,N_,N_,N_,N_,N_,N_,N_,N_,N_,N_,N_,N_,N_,N_,N_,N_] HT_.out ?_
        refine pY 29 82 #[J_,J_,J_,J_,J_,J_,J_,J_,J_,J_,J_,J_,J_,J_,J_,J_,J_,J_,J_,J_,J_,J_,J_,J_,J_,J_,J_,J_,J_,J_,N_,N_,N_,N_,N_,N_,N_,N_,N_,N_,N_,N_,N_,N_,N_,N_,N_] HT_.out ?_
        refine pY 30 83 #[J_,J_,J_,J_,J_,J_,J_,J_,J_,J_,J_,J_,J_,J_,J_,J_,J_,J_,J_,J_,J_,J_,J_,J_,J_,J_,J_,J_,J_,J_,J_,N_,N_,N_,N_,N_,N_,N_,N_,N_,N_,N_,N_,N_,N_,N_,N_] HT_.out ?_
        refine pU 31 84 #[J_,J_,J_,J_,J_,J_,J_,J_,J_,J_,J_,J_,J_,J_,J_,J_,J_,J_,J_,J_,J_,J_,J_,J_,J_,J_,J_,J_,J_,J_,J_,J_,N_,N_,N_,N_,N_,N_,N_,N_,N_,N_,N_,N_,N_,N_,N_] HT_.out ?_
        refine pU 32 85 #[J_,J_,J_,J_,J_,J_,J_,J_,J_,J_,J_,J_,J_,J_,J_,J_,J_,J_,J_,J_,J_,J_,J_,J_,J_,J_,J_,J_,J_,J_,J_,J_,J_,N_,N_,N_,N_,N_,N_,N_,N_,N_,N_,N_,N_,N_,N_] HT_.out ?_
        refine pU 33 86 #[J_,J_,J_,J_,J_,J_,J_,J_,J_,J_,J_,J_,J_,J_,J_,J_,J_,J_,J_,J_,J_,J_,J_,J_,J_,J_,J_,J_,J_,J_,J_,J_,J_,J_,N_,N_,N_,N_,N_,N_,N_,N_,N_,N_,N_,N_,N_] HT_.out ?_
        refine pY 34 87 #[J_,J_,J_,J_,J_,J_,J_,J_,J_,J_,J_,J_,J_,J_,J_,J_,J_,J_,J_,J_,J_,J_,J_,J_,J_,J_,J_,J_,J_,J_,J_,J_,J_,J_,J_,N_,N_,N_,N_,N_,N_,N_,N_,N_,N_,N_,N_] HT_.out ?_
        refine pY 35 88 #[J_,J_,J_,J_,J_,J_,J_,J_,J_,J_,J_,J_,J_,J_,J_,J_,J_,J_,J_,J_,J_,J_,J_,J_,J_,J_,J_,J_,J_,J_,J_,J_,J_,J_,J_,J_,N_,N_,N_,N_,N_,N_,N_,N_,N_,N_,N_] HT_.out ?_
        refine pU 36 89 #[J_,J_,J_,J_,J_,J_,J_,J_,J_,J_,J_,J_,J_,J_,J_,J_,J_,J_,J_,J_,J_,J_,J_,J_,J_,J_,J_,J_,J_,J_,J_,J_,J_,J_,J_,J_,J_,N_,N_,N_,N_,N_,N_,N_,N_,N_,N_] HT_.out ?_
        refine pU 37 90 #[J_,J_,J_,J_,J_,J_,J_,J_,J_,J_,J_,J_,J_,J_,J_,J_,J_,J_,J_,J_,J_,J_,J_,J_,J_,J_,J_,J_,J_,J_,J_,J_,J_,J_,J_,J_,J_,J_,N_,N_,N_,N_,N_,N_,N_,N_,N_] HT_.out ?_
        refine pU 38 91 #[J_,J_,J_,J_,J_,J_,J_,J_,J_,J_,J_,J_,J_,J_,J_,J_,J_,J_,J_,J_,J_,J_,J_,J_,J_,J_,J_,J_,J_,J_,J_,J_,J_,J_,J_,J_,J_,J_,J_,N_,N_,N_,N_,N_,N_,N_,N_] HT_.out ?_
        refine pU 39 92 #[J_,J_,J_,J_,J_,J_,J_,J_,J_,J_,J_,J_,J_,J_,J_,J_,J_,J_,J_,J_,J_,J_,J_,J_,J_,J_,J_,J_,J_,J_,J_,J_,J_,J_,J_,J_,J_,J_,J_,J_,N_,N_,N_,N_,N_,N_,N_] HT_.out ?_
        refine pU 40 93 #[J_,J_,J_,J_,J_,J_,J_,J_,J_,J_,J_,J_,J_,J_,J_,J_,J_,J_,J_,J_,J_,J_,J_,J_,J_,J_,J_,J_,J_,J_,J_,J_,J_,J_,J_,J_,J_,J_,J_,J_,J_,N_,N_,N_,N_,N_,N_] HT_.out ?_
        refine pU 41 94 #[J_,J_,J_,J_,J_,J_,J_,J_,J_,J_,J_,J_,J_,J_,J_,J_,J_,J_,J_,J_,J_,J_,J_,J_,J_,J_,J_,J_,J_,J_,J_,J_,J_,J_,J_,J_,J_,J_,J_,J_,J_,J_,N_,N_,N_,N_,N_] HT_.out ?_
        refine pU 42 95 #[J_,J_,J_,J_,J_,J_,J_,J_,J_,J_,J_,J_,J_,J_,J_,J_,J_,J_,J_,J_,J_,J_,J_,J_,J_,J_,J_,J_,J_,J_,J_,J_,J_,J_,J_,J_,J_,J_,J_,J_,J_,J_,J_,N_,N_,N_,N_] HT_.out ?_
        refine pU 43 96 #[J_,J_,J_,J_,J_,J_,J_,J_,J_,J_,J_,J_,J_,J_,J_,J_,J_,J_,J_,J_,J_,J_,J_,J_,J_,J_,J_,J_,J_,J_,J_,J_,J_,J_,J_,J_,J_,J_,J_,J_,J_,J_,J_,J_,N_,N_,N_] HT_.out ?_
        refine pY 44 97 #[J_,J_,J_,J_,J_,J_,J_,J_,J_,J_,J_,J_,J_,J_,J_,J_,J_,J_,J_,J_,J_,J_,J_,J_,J_,J_,J_,J_,J_,J_,J_,J_,J_,J_,J_,J_,J_,J_,J_,J_,J_,J_,J_,J_,J_,N_,N_] HT_.out ?_
        refine pY 45 98 #[J_,J_,J_,J_,J_,J_,J_,J_,J_,J_,J_,J_,J_,J_,J_,J_,J_,J_,J_,J_,J_,J_,J_,J_,J_,J_,J_,J_,J_,J_,J_,J_,J_,J_,J_,J_,J_,J_,J_,J_,J_,J_,J_,J_,J_,J_,N_] HT_.out ?_
        refine pY 46 8 #[J_,J_,J_,J_,J_,J_,J_,J_,J_,J_,J_,J_,J_,J_,J_,J_,J_,J_,J_,J_,J_,J_,J_,J_,J_,J_,J_,J_,J_,J_,J_,J_,J_,J_,J_,J_,J_,J_,J_,J_,J_,J_,J_,J_,J_,J_,J_] HT_.out ?_
        refine done_ (done_of HT_.out (by kernel_rfl)) ?_
        try go_wp2
        go_ret
        exact ⟨by first | rfl | (simp [errW_none, errW_some] <;> rfl) | (simp only [← hji14]; first | rfl | (simp [errW_none, errW_some] <;> rfl)) | (simp [*, errW_none, errW_some] <;> rfl), by repeat (first | (with_reducible first | exact HB.out | apply below_alloc | apply pw_below_drewN | apply below_drew1 | refine below_set ?_ GE313.out | refine below_set ?_ GE314.out | refine below_set ?_ GE321.out | refine below_set ?_ GE327.out | refine below_set ?_ GE336.out | refine below_set ?_ GE344.out) | exact HB.out)⟩
      ·rw [if_neg c16] at H
       exact absurd H (by simp)
     ·rw [if_neg c15] at H
      exact absurd H (by simp)
   ·rw [if_neg c11] at H
    exact absurd H (by simp)
 ·replace c6 := Bool.eq_false_iff.mpr c6
  subst c6
  have H1 : (none) = some r := by rw [if_neg (show ¬ (false = true) by decide)] at H; exact H
  clear H
  have H := H1
  clear H1
  exact absurd H (by simp)

end Go.Proofs.YtjmbddgbojcpmaaDoor.X
