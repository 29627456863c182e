-- Laid by xprint.py, a program of this session's, out of the translation.
import Derived.Test.YtielpefbgdilaaaX0
import Derived.Test.YtielpefbgdilaaaX16
import Derived.Test.YtielpefbgdilaaaX17
namespace Go.Proofs.Ytielpefbgdilaaa.X
open Go.RowKit Go.Proofs.YtielpefbgdilaaaW.PrintWords Go.Proofs.YtielpefbgdilaaaW.PrintLast Go.Proofs.YtielpefbgdilaaaW.PrintMore
attribute [local go_sem] max2_int min2_int max_two min_two max_three min_three max_four min_four x_isSome x_str_gtr x_str_leq x_str_geq   -- for this text's walks alone
set_option linter.unusedVariables false
set_option linter.unusedSimpArgs false

/-! ### archivistref06_Of: function 30 -/
mutual
def archivistref06_Of.l0 : Nat → List (S54) → List (S54) → Int → Option ((List (S54)))
 | 0, _, _, _ => none
 | k + 1, x0, x3, x4 => if x4 < (x0.length : Int) then (if 0 ≤ x4 then ((archivistref06_Name.f k ((rd_T54 x0 x4).f0)).bind fun t296 => (if t296 = true then (archivistref06_Of.l1 k x0 x3 x4 0) else (archivistref06_Of.l0 k x0 x3 (wrap64 (x4 + 1))))) else (none)) else (some x3)
def archivistref06_Of.l1 : Nat → List (S54) → List (S54) → Int → Int → Option ((List (S54)))
 | 0, _, _, _, _ => none
 | k + 1, x0, x3, x4, x5 => if x5 < (x3.length : Int) then (if 0 ≤ x5 then (if 0 ≤ x4 then (if x4 < (x0.length : Int) then (if (Op.bytesLess (((rd_T54 x3 x5).f0).toList) (((rd_T54 x0 x4).f0).toList)) = true then (archivistref06_Of.l1 k x0 x3 x4 (wrap64 (x5 + 1))) else (if x5 ≤ (x3.length : Int) then ((some (x3.take (x5 : Int).toNat : List (S54))).bind fun y299 => (if ([] : List (S54)).length + y299.length < 4398046511104 then ((some (([] : List (S54)) ++ y299 : List (S54))).bind fun y303 => (if y303.length < 4398046511104 then ((some (y303 ++ [(⟨(rd_T54 x0 x4).f0, (rd_T54 x0 x4).f1⟩ : S54)] : List (S54))).bind fun y307 => (if ((rd_T54 x3 x5).f0).toList = ((rd_T54 x0 x4).f0).toList then (if 0 ≤ (wrap64 (x5 + 1)) then (if (wrap64 (x5 + 1)) ≤ (x3.length : Int) then ((some (x3.drop ((wrap64 (x5 + 1)) : Int).toNat : List (S54))).bind fun y312 => (if y307.length + y312.length < 4398046511104 then (archivistref06_Of.l0 k x0 (y307 ++ y312) (wrap64 (x4 + 1))) else (none))) else (none)) else (none)) else ((some (x3.drop (x5 : Int).toNat : List (S54))).bind fun y319 => (if y307.length + y319.length < 4398046511104 then (archivistref06_Of.l0 k x0 (y307 ++ y319) (wrap64 (x4 + 1))) else (none))))) else (none))) else (none))) else (none))) else (none)) else (none)) else (none)) else (if 0 ≤ x5 then (if x5 ≤ (x3.length : Int) then ((some (x3.take (x5 : Int).toNat : List (S54))).bind fun y326 => (if ([] : List (S54)).length + y326.length < 4398046511104 then ((some (([] : List (S54)) ++ y326 : List (S54))).bind fun y330 => (if 0 ≤ x4 then (if x4 < (x0.length : Int) then (if y330.length < 4398046511104 then ((some (y330 ++ [(⟨(rd_T54 x0 x4).f0, (rd_T54 x0 x4).f1⟩ : S54)] : List (S54))).bind fun y334 => ((some (x3.drop (x5 : Int).toNat : List (S54))).bind fun y337 => (if y334.length + y337.length < 4398046511104 then (archivistref06_Of.l0 k x0 (y334 ++ y337) (wrap64 (x4 + 1))) else (none)))) else (none)) else (none)) else (none))) else (none))) else (none)) else (none))
end
def archivistref06_Of.f (k : Nat) (l0 : List (S54)) : Option ((List (S54))) := archivistref06_Of.l0 k l0 ([] : List (S54)) 0
theorem archivistref06_Of.mono_l : ∀ k, (∀ y0 y1 y2, LeO (archivistref06_Of.l0 k y0 y1 y2) (archivistref06_Of.l0 (k + 1) y0 y1 y2)) ∧ (∀ y0 y1 y2 y3, LeO (archivistref06_Of.l1 k y0 y1 y2 y3) (archivistref06_Of.l1 (k + 1) y0 y1 y2 y3))
 | 0 => ⟨fun _ _ _ r h => by simp [archivistref06_Of.l0] at h, fun _ _ _ _ r h => by simp [archivistref06_Of.l1] at h⟩
 | k + 1 => by
  obtain ⟨ih0, ih1⟩ := archivistref06_Of.mono_l k
  refine ⟨?_, ?_⟩
  ·intro y0 y1 y2
   unfold archivistref06_Of.l0
   repeat' first
   | (with_reducible exact ih0 _ _ _)
   | (with_reducible exact ih1 _ _ _ _)
   | (with_reducible exact archivistref06_Name.mono _ _)
   | (with_reducible exact LeO.refl _)
   | (with_reducible exact LeO.none _)
   | (with_reducible refine LeO.ite ?_ ?_)
   | (with_reducible refine LeO.bind ?_ (fun _ => ?_))
   | exact ih0 _ _ _
   | exact ih1 _ _ _ _
   | exact archivistref06_Name.mono _ _
   | exact LeO.none _
   | refine LeO.ite ?_ ?_
   | refine LeO.bind ?_ (fun _ => ?_)
  ·intro y0 y1 y2 y3
   unfold archivistref06_Of.l1
   repeat' first
   | (with_reducible exact ih0 _ _ _)
   | (with_reducible exact ih1 _ _ _ _)
   | (with_reducible exact archivistref06_Name.mono _ _)
   | (with_reducible exact LeO.refl _)
   | (with_reducible exact LeO.none _)
   | (with_reducible refine LeO.ite ?_ ?_)
   | (with_reducible refine LeO.bind ?_ (fun _ => ?_))
   | exact ih0 _ _ _
   | exact ih1 _ _ _ _
   | exact archivistref06_Name.mono _ _
   | exact LeO.none _
   | refine LeO.ite ?_ ?_
   | refine LeO.bind ?_ (fun _ => ?_)
theorem archivistref06_Of.mono : ∀ a0 k, LeO (archivistref06_Of.f k a0) (archivistref06_Of.f (k + 1) a0) := by
 intro a0 k
 obtain ⟨ih0, ih1⟩ := archivistref06_Of.mono_l k
 unfold archivistref06_Of.f
 repeat' first
   | (with_reducible exact ih0 _ _ _)
   | (with_reducible exact ih1 _ _ _ _)
   | (with_reducible exact archivistref06_Name.mono _ _)
   | (with_reducible exact LeO.refl _)
   | (with_reducible exact LeO.none _)
   | (with_reducible refine LeO.ite ?_ ?_)
   | (with_reducible refine LeO.bind ?_ (fun _ => ?_))
   | exact ih0 _ _ _
   | exact ih1 _ _ _ _
   | exact archivistref06_Name.mono _ _
   | exact LeO.none _
   | refine LeO.ite ?_ ?_
   | refine LeO.bind ?_ (fun _ => ?_)
set_option maxHeartbeats 8000000 in
set_option maxRecDepth 100000 in
theorem archivistref06_Of.calls (k : Nat) (A0 : Option Addr) (c0 : Nat) (l0 : List (S54)) (r : List (S54)) (w : World) (hr0 : Kd.C k54 w A0 l0.length l0) (hc0 : l0.length ≤ c0) (h : archivistref06_Of.f k l0 = some r) :
  Calls Try.prog 30 #[.slice A0 l0.length c0] w fun e w' => ∃ v0_ : Value, e = .returned (v0_) ∧ Kd.R k54 54 w' w.heap.size (fun _ => True) v0_ r ∧ Below w.heap.size w w' := by
 have hu54 := Try.underlying54
 have HR0 := Aside0.mk hr0
 have HC0 := Aside0.mk hc0
 clear hr0 hc0
 have HB := Aside0.mk (Below.refl w.heap.size w)
 have H : (archivistref06_Of.l0 k l0 ([] : List (S54)) 0) = some r := h
 clear h
 have H' := Aside0.mk H
 clear H
 go_enter Try.func30, Try.ntmps30
 go_wp2
 repeat (go_quiet (fail); try go_wp2)
 go_loopg [3, 4] k (fun kq v3 v4 w' => ∃ (x3_1 : List (S54)) (x4_1 : Int), v4 = .int .i64 x4_1 ∧ Aside0 (archivistref06_Of.l0 kq l0 x3_1 x4_1 = some r) ∧ Aside0 (kq ≤ k) ∧ Aside0 (Kd.R k54 54 w' w.heap.size (fun _ => True) v3 x3_1) ∧ Aside0 (Below w.heap.size w w'))
 case atStart => exact ⟨(([] : List (S54))), (0), rs, H', ⟨Nat.le_refl _⟩, ⟨by first | exact Kd.R_nil _ _ _ _ _ | exact Kd.N_nil _ _ _ _ _ | exact Kd.V_nil _ _ _ _ _ | exact Kd.Q_nil _ _ _ _ _ | exact Kd.S_nil _ _ _ _ _⟩, ⟨bl⟩⟩
 case round =>
  clear H'
  obtain ⟨x3_1, x4_1, rfl, HA, HK1, HO_3, HB⟩ := hrel
  cases gk with
  | zero => exact absurd HA.out (by simp [archivistref06_Of.l0])
  | succ k1 =>
   have H := HA.out
   clear HA
   simp only [archivistref06_Of.l0] at H
   by_cases c2 : x4_1 < (l0.length : Int)
   ·rw [if_pos c2] at H
    have c2b0 := decide_eq_true c2
    clear c2
    by_cases c3 : 0 ≤ x4_1
    ·rw [if_pos c3] at H
     have c3b0 := decide_eq_true c3
     clear c3
     replace H := Option.bind_eq_some_iff.mp H
     obtain ⟨t296, A40, H⟩ := H
     replace H : (if t296 = true then (archivistref06_Of.l1 k1 l0 x3_1 x4_1 0) else (archivistref06_Of.l0 k1 l0 x3_1 (wrap64 (x4_1 + 1)))) = some r := H
     have A4 := Aside0.mk A40
     clear A40
     by_cases c5 : t296 = true
     ·subst c5
      have H1 : (archivistref06_Of.l1 k1 l0 x3_1 x4_1 0) = some r := by rw [if_pos rfl] at H; exact H
      clear H
      have H := H1
      clear H1
      have H' := Aside0.mk H
      clear H
      have p295 : 0 ≤ (x4_1 : Int) := od
      have q295 : x4_1 < (l0.length : Int) := od
      obtain ⟨ad295, e295, hx295_0, hx295_1⟩ := at_T54 HR0.out x4_1 p295 q295
      cases e295
      replace hx295_0 := cu HB.out hx295_0
      replace hx295_1 := cu HB.out hx295_1
      replace p295 := eq_true p295
      replace q295 := eq_true q295
      go_wp2_with (first | (go_at_call 28; (with_reducible refine (archivistref06_Name.calls k1 ((rd_T54 l0 x4_1).f0) true _ A4.out).mono ?_); rintro e w' ⟨rfl, ⟨nd, rfl⟩⟩; (try exact dw)))
      repeat (go_quiet (first | (go_at_call 28; (with_reducible refine (archivistref06_Name.calls k1 ((rd_T54 l0 x4_1).f0) true _ A4.out).mono ?_); rintro e w' ⟨rfl, ⟨nd, rfl⟩⟩; (try exact dw))); try go_wp2_with (first | (go_at_call 28; (with_reducible refine (archivistref06_Name.calls k1 ((rd_T54 l0 x4_1).f0) true _ A4.out).mono ?_); rintro e w' ⟨rfl, ⟨nd, rfl⟩⟩; (try exact dw))))
      go_loopg [5] k1 (fun kq v5 w' => ∃ (x5_2 : Int), v5 = .int .i64 x5_2 ∧ Aside0 (archivistref06_Of.l1 kq l0 x3_1 x4_1 x5_2 = some r) ∧ Aside0 (kq ≤ k1) ∧ Aside0 (Kd.R k54 54 w' w.heap.size (fun _ => True) u3 x3_1) ∧ Aside0 (Below w.heap.size w w'))
      case atStart => exact ⟨(0), rs, H', ⟨Nat.le_refl _⟩, ⟨rz HO_3.out⟩, ⟨bl⟩⟩
      case round =>
       clear H'
       try clear c2
       try clear c2b0
       try clear p2
       try clear q2
       try clear hx2
       try clear c3
       try clear c3b0
       try clear c5
       try clear hx295_0
       try clear hx295_1
       try clear p295
       try clear q295
       obtain ⟨x5_2, rfl, HA, HK2, HO_3, HB⟩ := hrel
       cases gk with
       | zero => exact absurd HA.out (by simp [archivistref06_Of.l1])
       | succ k2 =>
        have H := HA.out
        clear HA
        simp only [archivistref06_Of.l1] at H
        by_cases c6 : x5_2 < (x3_1.length : Int)
        ·rw [if_pos c6] at H
         have c6b0 := decide_eq_true c6
         clear c6
         by_cases c7 : 0 ≤ x5_2
         ·rw [if_pos c7] at H
          have c7b0 := decide_eq_true c7
          clear c7
          by_cases c8 : 0 ≤ x4_1
          ·rw [if_pos c8] at H
           have c8b0 := decide_eq_true c8
           clear c8
           by_cases c9 : x4_1 < (l0.length : Int)
           ·rw [if_pos c9] at H
            have c9b0 := decide_eq_true c9
            clear c9
            by_cases c10 : (Op.bytesLess (((rd_T54 x3_1 x5_2).f0).toList) (((rd_T54 l0 x4_1).f0).toList)) = true
            ·rw [if_pos c10] at H
             have c10b0 := c10
             clear c10
             have H' := Aside0.mk H
             clear H
             obtain ⟨Ao11, co11, eo11⟩ := Kd.R_slice HO_3.out
             subst eo11
             have p297 : 0 ≤ (x5_2 : Int) := od
             have q297 : x5_2 < (x3_1.length : Int) := od
             obtain ⟨ad297, e297, hx297_0, hx297_1⟩ := at_T54 (Kd.R_reads' HO_3.out).2.2 x5_2 p297 q297
             cases e297
             replace p297 := eq_true p297
             replace q297 := eq_true q297
             have p298 : 0 ≤ (x4_1 : Int) := od
             have q298 : x4_1 < (l0.length : Int) := od
             obtain ⟨ad298, e298, hx298_0, hx298_1⟩ := at_T54 HR0.out x4_1 p298 q298
             obtain rfl : ad295 = ad298 := (by injection e298)
             replace hx298_0 := cu HB.out hx298_0
             replace hx298_1 := cu HB.out hx298_1
             replace p298 := eq_true p298
             replace q298 := eq_true q298
             go_wp2
             repeat (go_quiet (fail); try go_wp2)
             go_roundg k2
             case measure => have := HK1.out; have := HK2.out; omega
             case rel => exact ⟨(wrap64 (x5_2 + 1)), rs, H', ⟨by have := HK1.out; have := HK2.out; omega⟩, ⟨rz HO_3.out⟩, ⟨bl⟩⟩
            ·rw [if_neg c10] at H
             have c10b0 : (Op.bytesLess (((rd_T54 x3_1 x5_2).f0).toList) (((rd_T54 l0 x4_1).f0).toList)) = false := by simpa using c10
             clear c10
             have c12b0 := eq_true (od : 0 ≤ x5_2)
             by_cases c13 : x5_2 ≤ (x3_1.length : Int)
             ·rw [if_pos c13] at H
              have c13b0 := eq_true c13
              have c13b1 : decide (x5_2 ≤ (x3_1.length : Int)) = true := decide_eq_true c13
              clear c13
              obtain ⟨y299, hy299⟩ : ∃ y_ : List (S54), y_ = (x3_1.take (x5_2 : Int).toNat) := ⟨_, rfl⟩
              replace H : (if ([] : List (S54)).length + y299.length < 4398046511104 then ((some (([] : List (S54)) ++ y299 : List (S54))).bind fun y303 => (if y303.length < 4398046511104 then ((some (y303 ++ [(⟨(rd_T54 l0 x4_1).f0, (rd_T54 l0 x4_1).f1⟩ : S54)] : List (S54))).bind fun y307 => (if ((rd_T54 x3_1 x5_2).f0).toList = ((rd_T54 l0 x4_1).f0).toList then (if 0 ≤ (wrap64 (x5_2 + 1)) then (if (wrap64 (x5_2 + 1)) ≤ (x3_1.length : Int) then ((some (x3_1.drop ((wrap64 (x5_2 + 1)) : Int).toNat : List (S54))).bind fun y312 => (if y307.length + y312.length < 4398046511104 then (archivistref06_Of.l0 k2 l0 (y307 ++ y312) (wrap64 (x4_1 + 1))) else (none))) else (none)) else (none)) else ((some (x3_1.drop (x5_2 : Int).toNat : List (S54))).bind fun y319 => (if y307.length + y319.length < 4398046511104 then (archivistref06_Of.l0 k2 l0 (y307 ++ y319) (wrap64 (x4_1 + 1))) else (none))))) else (none))) else (none)) = some r := by first | (rw [hy299]; with_reducible exact H) | (have H2_ := (Option.bind_some _ _).symm.trans H; rw [hy299]; with_reducible exact H2_) | (have H2_ := (Option.bind_some _ _).symm.trans H; with_reducible exact H2_) | with_reducible exact H | (rw [hy299]; exact H) | exact H
              have Ny299 := Aside0.mk hy299
              clear hy299
              by_cases c14 : ([] : List (S54)).length + y299.length < 4398046511104
              ·rw [if_pos c14] at H
               have LMc14 := Aside0.mk c14
               clear c14
               obtain ⟨y303, hy303⟩ : ∃ y_ : List (S54), y_ = (([] : List (S54)) ++ y299) := ⟨_, rfl⟩
               replace H : (if y303.length < 4398046511104 then ((some (y303 ++ [(⟨(rd_T54 l0 x4_1).f0, (rd_T54 l0 x4_1).f1⟩ : S54)] : List (S54))).bind fun y307 => (if ((rd_T54 x3_1 x5_2).f0).toList = ((rd_T54 l0 x4_1).f0).toList then (if 0 ≤ (wrap64 (x5_2 + 1)) then (if (wrap64 (x5_2 + 1)) ≤ (x3_1.length : Int) then ((some (x3_1.drop ((wrap64 (x5_2 + 1)) : Int).toNat : List (S54))).bind fun y312 => (if y307.length + y312.length < 4398046511104 then (archivistref06_Of.l0 k2 l0 (y307 ++ y312) (wrap64 (x4_1 + 1))) else (none))) else (none)) else (none)) else ((some (x3_1.drop (x5_2 : Int).toNat : List (S54))).bind fun y319 => (if y307.length + y319.length < 4398046511104 then (archivistref06_Of.l0 k2 l0 (y307 ++ y319) (wrap64 (x4_1 + 1))) else (none))))) else (none)) = some r := by first | (rw [hy303]; with_reducible exact H) | (have H2_ := (Option.bind_some _ _).symm.trans H; rw [hy303]; with_reducible exact H2_) | (have H2_ := (Option.bind_some _ _).symm.trans H; with_reducible exact H2_) | with_reducible exact H | (rw [hy303]; exact H) | exact H
               have Ny303 := Aside0.mk hy303
               clear hy303
               by_cases c15 : y303.length < 4398046511104
               ·rw [if_pos c15] at H
                have LMc15 := Aside0.mk c15
                clear c15
                obtain ⟨y307, hy307⟩ : ∃ y_ : List (S54), y_ = (y303 ++ [(⟨(rd_T54 l0 x4_1).f0, (rd_T54 l0 x4_1).f1⟩ : S54)]) := ⟨_, rfl⟩
                replace H : (if ((rd_T54 x3_1 x5_2).f0).toList = ((rd_T54 l0 x4_1).f0).toList then (if 0 ≤ (wrap64 (x5_2 + 1)) then (if (wrap64 (x5_2 + 1)) ≤ (x3_1.length : Int) then ((some (x3_1.drop ((wrap64 (x5_2 + 1)) : Int).toNat : List (S54))).bind fun y312 => (if y307.length + y312.length < 4398046511104 then (archivistref06_Of.l0 k2 l0 (y307 ++ y312) (wrap64 (x4_1 + 1))) else (none))) else (none)) else (none)) else ((some (x3_1.drop (x5_2 : Int).toNat : List (S54))).bind fun y319 => (if y307.length + y319.length < 4398046511104 then (archivistref06_Of.l0 k2 l0 (y307 ++ y319) (wrap64 (x4_1 + 1))) else (none)))) = some r := by first | (rw [hy307]; with_reducible exact H) | (have H2_ := (Option.bind_some _ _).symm.trans H; rw [hy307]; with_reducible exact H2_) | (have H2_ := (Option.bind_some _ _).symm.trans H; with_reducible exact H2_) | with_reducible exact H | (rw [hy307]; exact H) | exact H
                have Ny307 := Aside0.mk hy307
                clear hy307
                by_cases c16 : ((rd_T54 x3_1 x5_2).f0).toList = ((rd_T54 l0 x4_1).f0).toList
                ·rw [if_pos c16] at H
                 have c16b0 : (((rd_T54 x3_1 x5_2).f0).toList == ((rd_T54 l0 x4_1).f0).toList) = true := beq_iff_eq.mpr c16
                 have c16b1 : (((rd_T54 x3_1 x5_2).f0).toList != ((rd_T54 l0 x4_1).f0).toList) = false := bne_eq_false_iff_eq.mpr c16
                 clear c16
                 obtain ⟨ji17, hji17⟩ : ∃ j_ : Int, (wrap64 (x5_2 + 1)) = j_ := ⟨_, rfl⟩
                 replace H : (if 0 ≤ (ji17) then (if (ji17) ≤ (x3_1.length : Int) then ((some (x3_1.drop ((ji17) : Int).toNat : List (S54))).bind fun y312 => (if y307.length + y312.length < 4398046511104 then (archivistref06_Of.l0 k2 l0 (y307 ++ y312) (wrap64 (x4_1 + 1))) else (none))) else (none)) else (none)) = some r := by first | (rw [hji17] at H; exact H) | (simp only [hji17] at H ⊢; exact H)
                 have hji17w : (IntKind.i64.wrap (x5_2 + 1)) = ji17 := (i64_w _).trans hji17
                 by_cases c18 : 0 ≤ (ji17)
                 ·rw [if_pos c18] at H
                  have c18b0 := eq_true c18
                  have c18b1 : decide (0 ≤ (ji17)) = true := decide_eq_true c18
                  clear c18
                  by_cases c19 : (ji17) ≤ (x3_1.length : Int)
                  ·rw [if_pos c19] at H
                   have c19b0 := eq_true c19
                   have c19b1 : decide ((ji17) ≤ (x3_1.length : Int)) = true := decide_eq_true c19
                   clear c19
                   obtain ⟨y312, hy312⟩ : ∃ y_ : List (S54), y_ = (x3_1.drop ((ji17) : Int).toNat) := ⟨_, rfl⟩
                   replace H : (if y307.length + y312.length < 4398046511104 then (archivistref06_Of.l0 k2 l0 (y307 ++ y312) (wrap64 (x4_1 + 1))) else (none)) = some r := by first | (rw [hy312]; with_reducible exact H) | (have H2_ := (Option.bind_some _ _).symm.trans H; rw [hy312]; with_reducible exact H2_) | (have H2_ := (Option.bind_some _ _).symm.trans H; with_reducible exact H2_) | with_reducible exact H | (rw [hy312]; exact H) | exact H
                   have Ny312 := Aside0.mk hy312
                   clear hy312
                   by_cases c20 : y307.length + y312.length < 4398046511104
                   ·rw [if_pos c20] at H
                    have LMc20 := Aside0.mk c20
                    clear c20
                    obtain ⟨y316, hy316⟩ : ∃ y_ : List (S54), y_ = (y307 ++ y312) := ⟨_, rfl⟩
                    replace H : (archivistref06_Of.l0 k2 l0 y316 (wrap64 (x4_1 + 1))) = some r := by first | (rw [hy316]; with_reducible exact H) | (have H2_ := (Option.bind_some _ _).symm.trans H; rw [hy316]; with_reducible exact H2_) | (have H2_ := (Option.bind_some _ _).symm.trans H; with_reducible exact H2_) | with_reducible exact H | (rw [hy316]; exact H) | exact H
                    have Ny316 := Aside0.mk hy316
                    clear hy316
                    have H' := Aside0.mk H
                    clear H
                    obtain ⟨Ao21, co21, eo21⟩ := Kd.R_slice HO_3.out
                    subst eo21
                    have p297 : 0 ≤ (x5_2 : Int) := od
                    have q297 : x5_2 < (x3_1.length : Int) := od
                    obtain ⟨ad297, e297, hx297_0, hx297_1⟩ := at_T54 (Kd.R_reads' HO_3.out).2.2 x5_2 p297 q297
                    cases e297
                    replace p297 := eq_true p297
                    replace q297 := eq_true q297
                    have p298 : 0 ≤ (x4_1 : Int) := od
                    have q298 : x4_1 < (l0.length : Int) := od
                    obtain ⟨ad298, e298, hx298_0, hx298_1⟩ := at_T54 HR0.out x4_1 p298 q298
                    obtain rfl : ad295 = ad298 := (by injection e298)
                    replace hx298_0 := cu HB.out hx298_0
                    replace hx298_1 := cu HB.out hx298_1
                    replace p298 := eq_true p298
                    replace q298 := eq_true q298
                    have q22 : (x5_2 : Int) ≤ ((x3_1.length : Int) : Int) := od
                    obtain ⟨i022, hi022, _, hsz22, _⟩ := info_parts info54
                    have hroom22 : x3_1.length ≤ co21 := (Kd.R_reads' HO_3.out).2.1
                    have hC22 : Kd.C k54 _ (some ad297) x3_1.length x3_1 := (Kd.R_reads' HO_3.out).2.2
                    have hcut22 := cut_to (P := Try.prog) 30 54 .i64 Try.underlying30 hi022 (some ad297) x3_1.length co21 x5_2 (od) q22 hroom22
                    have hr22 := Kd.C_take (m := (x5_2 : Int).toNat) hC22 (by omega)
                    have hy22 : y299.length = (x5_2 : Int).toNat := (by rw [Ny299.out, List.length_take]; omega)
                    rw [← Ny299.out] at hr22
                    rw [← hy22] at hcut22
                    have HR302 := Aside0.mk hr22
                    have HC302 := Aside0.mk (show y299.length ≤ co21 from by omega)
                    clear hr22 hC22 hroom22 hi022 hsz22
                    have KY22 := Aside0.mk hy22
                    clear hy22
                    have KL22 := Aside0.mk (show (x5_2 : Int).toNat ≤ x3_1.length from by omega)
                    replace q22 := eq_true q22
                    go_wp2_with (first | ((with_reducible refine gate_builtin (b := .append) (xs := #[.tmp 39, .tmp 42]) rfl ?_); at_builtin; refine Kd.R_append_rows k54 (w0 := w) w.heap.size rfl (.tmp 39) (.tmp 42) 30 54 (.agg #[(.string ⟨#[]⟩), (.string ⟨#[]⟩)]) 32 rfl Try.underlying30 info54 rfl (by decide) (by omega) (.slice none 0 0) ([] : List (S54)) y299 _ _ _ (fun k_ => some k_ ≠ (.slice (some ad297) x3_1.length co21 : Value).ownBlock) (fun _ => False) rfl rfl ?aO ?aR (fun _ _ h => h) (fun _ h => h.elim) ?aF ?aB ?aS ?aL ?_; (case aR => repeat (first | exact (by repeat (first | (with_reducible exact HR302.out) | (with_reducible refine Kd.C_alloc ?_ _) | (with_reducible refine Kd.C_drewN ?_ _) | (with_reducible refine Kd.C_drew ?_) | exact HR302.out)) | (with_reducible refine Kd.C_alloc ?_ _) | (with_reducible refine Kd.C_drewN ?_ _) | (with_reducible refine Kd.C_drew ?_))); (case aB => exact bl); (case aF => exact (fun k_ hk => Kd.fresh' (Kd.R_lt (rz HO_3.out)) k_ hk)); (case aO => exact ((Kd.R_nil _ _ _ _ (fun k_ => some k_ ≠ (.slice (some ad297) x3_1.length co21 : Value).ownBlock)))); (case aS => exact (below_size bl)); (case aL => have := LMc14.out; omega); intro v304 w23 ho hb hg hat; rw [← Ny303.out] at ho; have n0_ := Aside0.mk (Kd.R_after (Kd.R_apart_nil (rz HO_3.out)) hg hat); have n1_ := Aside0.mk (hb); have n2_ := Aside0.mk ((show Kd.C k54 w23 (some ad297) y299.length y299 from by rw [Ny299.out]; exact Kd.C_take (m := (x5_2 : Int).toNat) ((Kd.R_reads' (Kd.R_after (Kd.R_apart_nil (rz HO_3.out)) hg hat)).2.2) KL22.out)); have n3_ := Aside0.mk (ho); clear HO_3; clear HB; clear HR302; have HO_3 := n0_; have HB := n1_; have HR302 := n2_; have HO305 := n3_; clear n0_ n1_ n2_ n3_; clear ho hb hg hat; have p306 : 0 ≤ (x4_1 : Int) := od; have q306 : x4_1 < (l0.length : Int) := od; obtain ⟨ad306, e306, hx306_0, hx306_1⟩ := at_T54 HR0.out x4_1 p306 q306; obtain rfl : ad295 = ad306 := (by injection e306); replace hx306_0 := cu HB.out hx306_0; replace hx306_1 := cu HB.out hx306_1; replace p306 := eq_true p306; replace q306 := eq_true q306) | ((with_reducible refine gate_builtin (b := .append) (xs := #[.tmp 44, .tmp 49]) rfl ?_); at_builtin; refine Kd.R_append k54 (w0 := w) w.heap.size rfl (.tmp 44) (.tmp 49) 30 54 (.agg #[(.string ⟨#[]⟩), (.string ⟨#[]⟩)]) 32 rfl Try.underlying30 info54 rfl (by decide) (by omega) v304 y303 (⟨(rd_T54 l0 x4_1).f0, (rd_T54 l0 x4_1).f1⟩ : S54) [.string ((rd_T54 l0 x4_1).f0), .string ((rd_T54 l0 x4_1).f1)] (fun k_ => some k_ ≠ (.slice (some ad297) x3_1.length co21 : Value).ownBlock) (fun _ => False) rfl rfl ?aP (fun _ hk => hk.elim) ?aF ?aO ?aB ?aS ?aL ?_; (case aP => exact k54_mkM _ _ _ (⟨(rd_T54 l0 x4_1).f0, (rd_T54 l0 x4_1).f1⟩ : S54)); (case aB => exact bl); (case aF => exact (fun k_ hk => Kd.fresh' (Kd.R_lt (rz HO_3.out)) k_ hk)); (case aO => exact (rz HO305.out)); (case aS => exact (below_size bl)); (case aL => have := LMc15.out; omega); intro v308 w24 ho hb hg hat; rw [← Ny307.out] at ho; have n0_ := Aside0.mk (Kd.R_after (ok := (fun _ => True)) (rz HO_3.out) hg hat); have n1_ := Aside0.mk (hb); have n2_ := Aside0.mk ((show Kd.C k54 w24 (some ad297) y299.length y299 from by rw [Ny299.out]; exact Kd.C_take (m := (x5_2 : Int).toNat) ((Kd.R_reads' (Kd.R_after (ok := (fun _ => True)) (rz HO_3.out) hg hat)).2.2) KL22.out)); have n3_ := Aside0.mk (ho); clear HO_3; clear HB; clear HR302; clear HO305; have HO_3 := n0_; have HB := n1_; have HR302 := n2_; have HO309 := n3_; clear n0_ n1_ n2_ n3_; clear ho hb hg hat; have p310 : 0 ≤ (x5_2 : Int) := od; have q310 : x5_2 < (x3_1.length : Int) := od; obtain ⟨ad310, e310, hx310_0, hx310_1⟩ := at_T54 (Kd.R_reads' HO_3.out).2.2 x5_2 p310 q310; obtain rfl : ad297 = ad310 := (by injection e310); replace p310 := eq_true p310; replace q310 := eq_true q310; have p311 : 0 ≤ (x4_1 : Int) := od; have q311 : x4_1 < (l0.length : Int) := od; obtain ⟨ad311, e311, hx311_0, hx311_1⟩ := at_T54 HR0.out x4_1 p311 q311; obtain rfl : ad295 = ad311 := (by injection e311); replace hx311_0 := cu HB.out hx311_0; replace hx311_1 := cu HB.out hx311_1; replace p311 := eq_true p311; replace q311 := eq_true q311; have q25 : ((ji17) : Int) ≤ ((x3_1.length : Int) : Int) := od; obtain ⟨i025, hi025, _, hsz25, _⟩ := info_parts info54; have hroom25 : x3_1.length ≤ co21 := (Kd.R_reads' HO_3.out).2.1; have hC25 : Kd.C k54 _ (some ad297) x3_1.length x3_1 := (Kd.R_reads' HO_3.out).2.2; have q025 : (0 : Int) ≤ ((ji17) : Int) := od; have hcut25 := cut_from (P := Try.prog) 30 54 .i64 Try.underlying30 hi025 2 hsz25 (some ad297) x3_1.length co21 (ji17) q025 q25; have hr25 := Kd.C_drop (m := ((ji17) : Int).toNat) (c := co21) hC25 (by omega) hroom25; obtain ⟨A25, hA25⟩ : ∃ A1, A1 = (if co21 = ((ji17) : Int).toNat then (some ad297) else ((some ad297) : Option Addr).map (·.add (((ji17) : Int).toNat * 2))) := ⟨_, rfl⟩; obtain ⟨c25, hc25⟩ : ∃ c1, c1 = co21 - ((ji17) : Int).toNat := ⟨_, rfl⟩; have hy25 : y312.length = x3_1.length - ((ji17) : Int).toNat := (by rw [Ny312.out, List.length_drop] <;> omega); rw [show (x3_1).drop ((ji17) : Int).toNat = y312 from Ny312.out.symm] at hr25; replace hr25 : Kd.C k54 _ A25 y312.length y312 := (by rw [hA25]; exact hr25); rw [← hy25, ← hA25, ← hc25] at hcut25; have HR315 := Aside0.mk hr25; have HC315 := Aside0.mk (show y312.length ≤ c25 from by rw [hy25, hc25]; exact Nat.sub_le_sub_right hroom25 _); clear hr25 hC25 hroom25 hi025 hsz25 hc25; have KY25 := Aside0.mk hy25; have KA25 := Aside0.mk hA25; clear hy25 hA25; have KL25 := Aside0.mk (show ((ji17) : Int).toNat ≤ x3_1.length from by omega); replace q25 := eq_true q25) | ((with_reducible refine gate_builtin (b := .append) (xs := #[.tmp 70, .tmp 73]) rfl ?_); at_builtin; refine Kd.R_append_rows k54 (w0 := w) w.heap.size rfl (.tmp 70) (.tmp 73) 30 54 (.agg #[(.string ⟨#[]⟩), (.string ⟨#[]⟩)]) 32 rfl Try.underlying30 info54 rfl (by decide) (by omega) v308 y307 y312 _ _ _ (fun k_ => some k_ ≠ (.slice (some ad297) x3_1.length co21 : Value).ownBlock) (fun _ => False) rfl rfl ?aO ?aR (fun _ _ h => h) (fun _ h => h.elim) ?aF ?aB ?aS ?aL ?_; (case aR => repeat (first | exact (by repeat (first | (with_reducible exact HR315.out) | (with_reducible refine Kd.C_alloc ?_ _) | (with_reducible refine Kd.C_drewN ?_ _) | (with_reducible refine Kd.C_drew ?_) | exact HR315.out)) | (with_reducible refine Kd.C_alloc ?_ _) | (with_reducible refine Kd.C_drewN ?_ _) | (with_reducible refine Kd.C_drew ?_))); (case aB => exact bl); (case aF => exact (fun k_ hk => Kd.fresh' (Kd.R_lt (rz HO_3.out)) k_ hk)); (case aO => exact (rz HO309.out)); (case aS => exact (below_size bl)); (case aL => have := LMc20.out; omega); intro v317 w26 ho hb hg hat; rw [← Ny316.out] at ho; have n0_ := Aside0.mk (Kd.R_after (ok := (fun _ => True)) (rz HO_3.out) hg hat); have n1_ := Aside0.mk (hb); have n2_ := Aside0.mk ((show Kd.C k54 w26 (some ad297) y299.length y299 from by rw [Ny299.out]; exact Kd.C_take (m := (x5_2 : Int).toNat) ((Kd.R_reads' (Kd.R_after (ok := (fun _ => True)) (rz HO_3.out) hg hat)).2.2) KL22.out)); have n3_ := Aside0.mk ((show Kd.C k54 w26 A25 y312.length y312 from by rw [Ny312.out, KA25.out]; exact Kd.C_drop (m := ((ji17) : Int).toNat) (c := co21) ((Kd.R_reads' (Kd.R_after (ok := (fun _ => True)) (rz HO_3.out) hg hat)).2.2) KL25.out ((Kd.R_reads' (Kd.R_after (ok := (fun _ => True)) (rz HO_3.out) hg hat)).2.1))); have n4_ := Aside0.mk (ho); clear HO_3; clear HB; clear HR302; clear HR315; clear HO309; have HO_3 := n0_; have HB := n1_; have HR302 := n2_; have HR315 := n3_; have HO318 := n4_; clear n0_ n1_ n2_ n3_ n4_; clear ho hb hg hat))
                    repeat (go_quiet (first | ((with_reducible refine gate_builtin (b := .append) (xs := #[.tmp 39, .tmp 42]) rfl ?_); at_builtin; refine Kd.R_append_rows k54 (w0 := w) w.heap.size rfl (.tmp 39) (.tmp 42) 30 54 (.agg #[(.string ⟨#[]⟩), (.string ⟨#[]⟩)]) 32 rfl Try.underlying30 info54 rfl (by decide) (by omega) (.slice none 0 0) ([] : List (S54)) y299 _ _ _ (fun k_ => some k_ ≠ (.slice (some ad297) x3_1.length co21 : Value).ownBlock) (fun _ => False) rfl rfl ?aO ?aR (fun _ _ h => h) (fun _ h => h.elim) ?aF ?aB ?aS ?aL ?_; (case aR => repeat (first | exact (by repeat (first | (with_reducible exact HR302.out) | (with_reducible refine Kd.C_alloc ?_ _) | (with_reducible refine Kd.C_drewN ?_ _) | (with_reducible refine Kd.C_drew ?_) | exact HR302.out)) | (with_reducible refine Kd.C_alloc ?_ _) | (with_reducible refine Kd.C_drewN ?_ _) | (with_reducible refine Kd.C_drew ?_))); (case aB => exact bl); (case aF => exact (fun k_ hk => Kd.fresh' (Kd.R_lt (rz HO_3.out)) k_ hk)); (case aO => exact ((Kd.R_nil _ _ _ _ (fun k_ => some k_ ≠ (.slice (some ad297) x3_1.length co21 : Value).ownBlock)))); (case aS => exact (below_size bl)); (case aL => have := LMc14.out; omega); intro v304 w23 ho hb hg hat; rw [← Ny303.out] at ho; have n0_ := Aside0.mk (Kd.R_after (Kd.R_apart_nil (rz HO_3.out)) hg hat); have n1_ := Aside0.mk (hb); have n2_ := Aside0.mk ((show Kd.C k54 w23 (some ad297) y299.length y299 from by rw [Ny299.out]; exact Kd.C_take (m := (x5_2 : Int).toNat) ((Kd.R_reads' (Kd.R_after (Kd.R_apart_nil (rz HO_3.out)) hg hat)).2.2) KL22.out)); have n3_ := Aside0.mk (ho); clear HO_3; clear HB; clear HR302; have HO_3 := n0_; have HB := n1_; have HR302 := n2_; have HO305 := n3_; clear n0_ n1_ n2_ n3_; clear ho hb hg hat; have p306 : 0 ≤ (x4_1 : Int) := od; have q306 : x4_1 < (l0.length : Int) := od; obtain ⟨ad306, e306, hx306_0, hx306_1⟩ := at_T54 HR0.out x4_1 p306 q306; obtain rfl : ad295 = ad306 := (by injection e306); replace hx306_0 := cu HB.out hx306_0; replace hx306_1 := cu HB.out hx306_1; replace p306 := eq_true p306; replace q306 := eq_true q306) | ((with_reducible refine gate_builtin (b := .append) (xs := #[.tmp 44, .tmp 49]) rfl ?_); at_builtin; refine Kd.R_append k54 (w0 := w) w.heap.size rfl (.tmp 44) (.tmp 49) 30 54 (.agg #[(.string ⟨#[]⟩), (.string ⟨#[]⟩)]) 32 rfl Try.underlying30 info54 rfl (by decide) (by omega) v304 y303 (⟨(rd_T54 l0 x4_1).f0, (rd_T54 l0 x4_1).f1⟩ : S54) [.string ((rd_T54 l0 x4_1).f0), .string ((rd_T54 l0 x4_1).f1)] (fun k_ => some k_ ≠ (.slice (some ad297) x3_1.length co21 : Value).ownBlock) (fun _ => False) rfl rfl ?aP (fun _ hk => hk.elim) ?aF ?aO ?aB ?aS ?aL ?_; (case aP => exact k54_mkM _ _ _ (⟨(rd_T54 l0 x4_1).f0, (rd_T54 l0 x4_1).f1⟩ : S54)); (case aB => exact bl); (case aF => exact (fun k_ hk => Kd.fresh' (Kd.R_lt (rz HO_3.out)) k_ hk)); (case aO => exact (rz HO305.out)); (case aS => exact (below_size bl)); (case aL => have := LMc15.out; omega); intro v308 w24 ho hb hg hat; rw [← Ny307.out] at ho; have n0_ := Aside0.mk (Kd.R_after (ok := (fun _ => True)) (rz HO_3.out) hg hat); have n1_ := Aside0.mk (hb); have n2_ := Aside0.mk ((show Kd.C k54 w24 (some ad297) y299.length y299 from by rw [Ny299.out]; exact Kd.C_take (m := (x5_2 : Int).toNat) ((Kd.R_reads' (Kd.R_after (ok := (fun _ => True)) (rz HO_3.out) hg hat)).2.2) KL22.out)); have n3_ := Aside0.mk (ho); clear HO_3; clear HB; clear HR302; clear HO305; have HO_3 := n0_; have HB := n1_; have HR302 := n2_; have HO309 := n3_; clear n0_ n1_ n2_ n3_; clear ho hb hg hat; have p310 : 0 ≤ (x5_2 : Int) := od; have q310 : x5_2 < (x3_1.length : Int) := od; obtain ⟨ad310, e310, hx310_0, hx310_1⟩ := at_T54 (Kd.R_reads' HO_3.out).2.2 x5_2 p310 q310; obtain rfl : ad297 = ad310 := (by injection e310); replace p310 := eq_true p310; replace q310 := eq_true q310; have p311 : 0 ≤ (x4_1 : Int) := od; have q311 : x4_1 < (l0.length : Int) := od; obtain ⟨ad311, e311, hx311_0, hx311_1⟩ := at_T54 HR0.out x4_1 p311 q311; obtain rfl : ad295 = ad311 := (by injection e311); replace hx311_0 := cu HB.out hx311_0; replace hx311_1 := cu HB.out hx311_1; replace p311 := eq_true p311; replace q311 := eq_true q311; have q25 : ((ji17) : Int) ≤ ((x3_1.length : Int) : Int) := od; obtain ⟨i025, hi025, _, hsz25, _⟩ := info_parts info54; have hroom25 : x3_1.length ≤ co21 := (Kd.R_reads' HO_3.out).2.1; have hC25 : Kd.C k54 _ (some ad297) x3_1.length x3_1 := (Kd.R_reads' HO_3.out).2.2; have q025 : (0 : Int) ≤ ((ji17) : Int) := od; have hcut25 := cut_from (P := Try.prog) 30 54 .i64 Try.underlying30 hi025 2 hsz25 (some ad297) x3_1.length co21 (ji17) q025 q25; have hr25 := Kd.C_drop (m := ((ji17) : Int).toNat) (c := co21) hC25 (by omega) hroom25; obtain ⟨A25, hA25⟩ : ∃ A1, A1 = (if co21 = ((ji17) : Int).toNat then (some ad297) else ((some ad297) : Option Addr).map (·.add (((ji17) : Int).toNat * 2))) := ⟨_, rfl⟩; obtain ⟨c25, hc25⟩ : ∃ c1, c1 = co21 - ((ji17) : Int).toNat := ⟨_, rfl⟩; have hy25 : y312.length = x3_1.length - ((ji17) : Int).toNat := (by rw [Ny312.out, List.length_drop] <;> omega); rw [show (x3_1).drop ((ji17) : Int).toNat = y312 from Ny312.out.symm] at hr25; replace hr25 : Kd.C k54 _ A25 y312.length y312 := (by rw [hA25]; exact hr25); rw [← hy25, ← hA25, ← hc25] at hcut25; have HR315 := Aside0.mk hr25; have HC315 := Aside0.mk (show y312.length ≤ c25 from by rw [hy25, hc25]; exact Nat.sub_le_sub_right hroom25 _); clear hr25 hC25 hroom25 hi025 hsz25 hc25; have KY25 := Aside0.mk hy25; have KA25 := Aside0.mk hA25; clear hy25 hA25; have KL25 := Aside0.mk (show ((ji17) : Int).toNat ≤ x3_1.length from by omega); replace q25 := eq_true q25) | ((with_reducible refine gate_builtin (b := .append) (xs := #[.tmp 70, .tmp 73]) rfl ?_); at_builtin; refine Kd.R_append_rows k54 (w0 := w) w.heap.size rfl (.tmp 70) (.tmp 73) 30 54 (.agg #[(.string ⟨#[]⟩), (.string ⟨#[]⟩)]) 32 rfl Try.underlying30 info54 rfl (by decide) (by omega) v308 y307 y312 _ _ _ (fun k_ => some k_ ≠ (.slice (some ad297) x3_1.length co21 : Value).ownBlock) (fun _ => False) rfl rfl ?aO ?aR (fun _ _ h => h) (fun _ h => h.elim) ?aF ?aB ?aS ?aL ?_; (case aR => repeat (first | exact (by repeat (first | (with_reducible exact HR315.out) | (with_reducible refine Kd.C_alloc ?_ _) | (with_reducible refine Kd.C_drewN ?_ _) | (with_reducible refine Kd.C_drew ?_) | exact HR315.out)) | (with_reducible refine Kd.C_alloc ?_ _) | (with_reducible refine Kd.C_drewN ?_ _) | (with_reducible refine Kd.C_drew ?_))); (case aB => exact bl); (case aF => exact (fun k_ hk => Kd.fresh' (Kd.R_lt (rz HO_3.out)) k_ hk)); (case aO => exact (rz HO309.out)); (case aS => exact (below_size bl)); (case aL => have := LMc20.out; omega); intro v317 w26 ho hb hg hat; rw [← Ny316.out] at ho; have n0_ := Aside0.mk (Kd.R_after (ok := (fun _ => True)) (rz HO_3.out) hg hat); have n1_ := Aside0.mk (hb); have n2_ := Aside0.mk ((show Kd.C k54 w26 (some ad297) y299.length y299 from by rw [Ny299.out]; exact Kd.C_take (m := (x5_2 : Int).toNat) ((Kd.R_reads' (Kd.R_after (ok := (fun _ => True)) (rz HO_3.out) hg hat)).2.2) KL22.out)); have n3_ := Aside0.mk ((show Kd.C k54 w26 A25 y312.length y312 from by rw [Ny312.out, KA25.out]; exact Kd.C_drop (m := ((ji17) : Int).toNat) (c := co21) ((Kd.R_reads' (Kd.R_after (ok := (fun _ => True)) (rz HO_3.out) hg hat)).2.2) KL25.out ((Kd.R_reads' (Kd.R_after (ok := (fun _ => True)) (rz HO_3.out) hg hat)).2.1))); have n4_ := Aside0.mk (ho); clear HO_3; clear HB; clear HR302; clear HR315; clear HO309; have HO_3 := n0_; have HB := n1_; have HR302 := n2_; have HR315 := n3_; have HO318 := n4_; clear n0_ n1_ n2_ n3_ n4_; clear ho hb hg hat)); try go_wp2_with (first | ((with_reducible refine gate_builtin (b := .append) (xs := #[.tmp 39, .tmp 42]) rfl ?_); at_builtin; refine Kd.R_append_rows k54 (w0 := w) w.heap.size rfl (.tmp 39) (.tmp 42) 30 54 (.agg #[(.string ⟨#[]⟩), (.string ⟨#[]⟩)]) 32 rfl Try.underlying30 info54 rfl (by decide) (by omega) (.slice none 0 0) ([] : List (S54)) y299 _ _ _ (fun k_ => some k_ ≠ (.slice (some ad297) x3_1.length co21 : Value).ownBlock) (fun _ => False) rfl rfl ?aO ?aR (fun _ _ h => h) (fun _ h => h.elim) ?aF ?aB ?aS ?aL ?_; (case aR => repeat (first | exact (by repeat (first | (with_reducible exact HR302.out) | (with_reducible refine Kd.C_alloc ?_ _) | (with_reducible refine Kd.C_drewN ?_ _) | (with_reducible refine Kd.C_drew ?_) | exact HR302.out)) | (with_reducible refine Kd.C_alloc ?_ _) | (with_reducible refine Kd.C_drewN ?_ _) | (with_reducible refine Kd.C_drew ?_))); (case aB => exact bl); (case aF => exact (fun k_ hk => Kd.fresh' (Kd.R_lt (rz HO_3.out)) k_ hk)); (case aO => exact ((Kd.R_nil _ _ _ _ (fun k_ => some k_ ≠ (.slice (some ad297) x3_1.length co21 : Value).ownBlock)))); (case aS => exact (below_size bl)); (case aL => have := LMc14.out; omega); intro v304 w23 ho hb hg hat; rw [← Ny303.out] at ho; have n0_ := Aside0.mk (Kd.R_after (Kd.R_apart_nil (rz HO_3.out)) hg hat); have n1_ := Aside0.mk (hb); have n2_ := Aside0.mk ((show Kd.C k54 w23 (some ad297) y299.length y299 from by rw [Ny299.out]; exact Kd.C_take (m := (x5_2 : Int).toNat) ((Kd.R_reads' (Kd.R_after (Kd.R_apart_nil (rz HO_3.out)) hg hat)).2.2) KL22.out)); have n3_ := Aside0.mk (ho); clear HO_3; clear HB; clear HR302; have HO_3 := n0_; have HB := n1_; have HR302 := n2_; have HO305 := n3_; clear n0_ n1_ n2_ n3_; clear ho hb hg hat; have p306 : 0 ≤ (x4_1 : Int) := od; have q306 : x4_1 < (l0.length : Int) := od; obtain ⟨ad306, e306, hx306_0, hx306_1⟩ := at_T54 HR0.out x4_1 p306 q306; obtain rfl : ad295 = ad306 := (by injection e306); replace hx306_0 := cu HB.out hx306_0; replace hx306_1 := cu HB.out hx306_1; replace p306 := eq_true p306; replace q306 := eq_true q306) | ((with_reducible refine gate_builtin (b := .append) (xs := #[.tmp 44, .tmp 49]) rfl ?_); at_builtin; refine Kd.R_append k54 (w0 := w) w.heap.size rfl (.tmp 44) (.tmp 49) 30 54 (.agg #[(.string ⟨#[]⟩), (.string ⟨#[]⟩)]) 32 rfl Try.underlying30 info54 rfl (by decide) (by omega) v304 y303 (⟨(rd_T54 l0 x4_1).f0, (rd_T54 l0 x4_1).f1⟩ : S54) [.string ((rd_T54 l0 x4_1).f0), .string ((rd_T54 l0 x4_1).f1)] (fun k_ => some k_ ≠ (.slice (some ad297) x3_1.length co21 : Value).ownBlock) (fun _ => False) rfl rfl ?aP (fun _ hk => hk.elim) ?aF ?aO ?aB ?aS ?aL ?_; (case aP => exact k54_mkM _ _ _ (⟨(rd_T54 l0 x4_1).f0, (rd_T54 l0 x4_1).f1⟩ : S54)); (case aB => exact bl); (case aF => exact (fun k_ hk => Kd.fresh' (Kd.R_lt (rz HO_3.out)) k_ hk)); (case aO => exact (rz HO305.out)); (case aS => exact (below_size bl)); (case aL => have := LMc15.out; omega); intro v308 w24 ho hb hg hat; rw [← Ny307.out] at ho; have n0_ := Aside0.mk (Kd.R_after (ok := (fun _ => True)) (rz HO_3.out) hg hat); have n1_ := Aside0.mk (hb); have n2_ := Aside0.mk ((show Kd.C k54 w24 (some ad297) y299.length y299 from by rw [Ny299.out]; exact Kd.C_take (m := (x5_2 : Int).toNat) ((Kd.R_reads' (Kd.R_after (ok := (fun _ => True)) (rz HO_3.out) hg hat)).2.2) KL22.out)); have n3_ := Aside0.mk (ho); clear HO_3; clear HB; clear HR302; clear HO305; have HO_3 := n0_; have HB := n1_; have HR302 := n2_; have HO309 := n3_; clear n0_ n1_ n2_ n3_; clear ho hb hg hat; have p310 : 0 ≤ (x5_2 : Int) := od; have q310 : x5_2 < (x3_1.length : Int) := od; obtain ⟨ad310, e310, hx310_0, hx310_1⟩ := at_T54 (Kd.R_reads' HO_3.out).2.2 x5_2 p310 q310; obtain rfl : ad297 = ad310 := (by injection e310); replace p310 := eq_true p310; replace q310 := eq_true q310; have p311 : 0 ≤ (x4_1 : Int) := od; have q311 : x4_1 < (l0.length : Int) := od; obtain ⟨ad311, e311, hx311_0, hx311_1⟩ := at_T54 HR0.out x4_1 p311 q311; obtain rfl : ad295 = ad311 := (by injection e311); replace hx311_0 := cu HB.out hx311_0; replace hx311_1 := cu HB.out hx311_1; replace p311 := eq_true p311; replace q311 := eq_true q311; have q25 : ((ji17) : Int) ≤ ((x3_1.length : Int) : Int) := od; obtain ⟨i025, hi025, _, hsz25, _⟩ := info_parts info54; have hroom25 : x3_1.length ≤ co21 := (Kd.R_reads' HO_3.out).2.1; have hC25 : Kd.C k54 _ (some ad297) x3_1.length x3_1 := (Kd.R_reads' HO_3.out).2.2; have q025 : (0 : Int) ≤ ((ji17) : Int) := od; have hcut25 := cut_from (P := Try.prog) 30 54 .i64 Try.underlying30 hi025 2 hsz25 (some ad297) x3_1.length co21 (ji17) q025 q25; have hr25 := Kd.C_drop (m := ((ji17) : Int).toNat) (c := co21) hC25 (by omega) hroom25; obtain ⟨A25, hA25⟩ : ∃ A1, A1 = (if co21 = ((ji17) : Int).toNat then (some ad297) else ((some ad297) : Option Addr).map (·.add (((ji17) : Int).toNat * 2))) := ⟨_, rfl⟩; obtain ⟨c25, hc25⟩ : ∃ c1, c1 = co21 - ((ji17) : Int).toNat := ⟨_, rfl⟩; have hy25 : y312.length = x3_1.length - ((ji17) : Int).toNat := (by rw [Ny312.out, List.length_drop] <;> omega); rw [show (x3_1).drop ((ji17) : Int).toNat = y312 from Ny312.out.symm] at hr25; replace hr25 : Kd.C k54 _ A25 y312.length y312 := (by rw [hA25]; exact hr25); rw [← hy25, ← hA25, ← hc25] at hcut25; have HR315 := Aside0.mk hr25; have HC315 := Aside0.mk (show y312.length ≤ c25 from by rw [hy25, hc25]; exact Nat.sub_le_sub_right hroom25 _); clear hr25 hC25 hroom25 hi025 hsz25 hc25; have KY25 := Aside0.mk hy25; have KA25 := Aside0.mk hA25; clear hy25 hA25; have KL25 := Aside0.mk (show ((ji17) : Int).toNat ≤ x3_1.length from by omega); replace q25 := eq_true q25) | ((with_reducible refine gate_builtin (b := .append) (xs := #[.tmp 70, .tmp 73]) rfl ?_); at_builtin; refine Kd.R_append_rows k54 (w0 := w) w.heap.size rfl (.tmp 70) (.tmp 73) 30 54 (.agg #[(.string ⟨#[]⟩), (.string ⟨#[]⟩)]) 32 rfl Try.underlying30 info54 rfl (by decide) (by omega) v308 y307 y312 _ _ _ (fun k_ => some k_ ≠ (.slice (some ad297) x3_1.length co21 : Value).ownBlock) (fun _ => False) rfl rfl ?aO ?aR (fun _ _ h => h) (fun _ h => h.elim) ?aF ?aB ?aS ?aL ?_; (case aR => repeat (first | exact (by repeat (first | (with_reducible exact HR315.out) | (with_reducible refine Kd.C_alloc ?_ _) | (with_reducible refine Kd.C_drewN ?_ _) | (with_reducible refine Kd.C_drew ?_) | exact HR315.out)) | (with_reducible refine Kd.C_alloc ?_ _) | (with_reducible refine Kd.C_drewN ?_ _) | (with_reducible refine Kd.C_drew ?_))); (case aB => exact bl); (case aF => exact (fun k_ hk => Kd.fresh' (Kd.R_lt (rz HO_3.out)) k_ hk)); (case aO => exact (rz HO309.out)); (case aS => exact (below_size bl)); (case aL => have := LMc20.out; omega); intro v317 w26 ho hb hg hat; rw [← Ny316.out] at ho; have n0_ := Aside0.mk (Kd.R_after (ok := (fun _ => True)) (rz HO_3.out) hg hat); have n1_ := Aside0.mk (hb); have n2_ := Aside0.mk ((show Kd.C k54 w26 (some ad297) y299.length y299 from by rw [Ny299.out]; exact Kd.C_take (m := (x5_2 : Int).toNat) ((Kd.R_reads' (Kd.R_after (ok := (fun _ => True)) (rz HO_3.out) hg hat)).2.2) KL22.out)); have n3_ := Aside0.mk ((show Kd.C k54 w26 A25 y312.length y312 from by rw [Ny312.out, KA25.out]; exact Kd.C_drop (m := ((ji17) : Int).toNat) (c := co21) ((Kd.R_reads' (Kd.R_after (ok := (fun _ => True)) (rz HO_3.out) hg hat)).2.2) KL25.out ((Kd.R_reads' (Kd.R_after (ok := (fun _ => True)) (rz HO_3.out) hg hat)).2.1))); have n4_ := Aside0.mk (ho); clear HO_3; clear HB; clear HR302; clear HR315; clear HO309; have HO_3 := n0_; have HB := n1_; have HR302 := n2_; have HR315 := n3_; have HO318 := n4_; clear n0_ n1_ n2_ n3_ n4_; clear ho hb hg hat)))
                    go_roundg k2
                    case measure => have := HK1.out; have := HK2.out; omega
                    case rel => exact ⟨(y316), (wrap64 (x4_1 + 1)), rs, H', ⟨by have := HK1.out; have := HK2.out; omega⟩, ⟨by (with_reducible repeat (first | apply Kd.R_alloc | apply Kd.R_drewN | apply Kd.R_drew)); exact Kd.R_mono HO318.out (fun _ hk => trivial)⟩, ⟨bl⟩⟩
                   ·rw [if_neg c20] at H
                    exact absurd H (by simp)
                  ·rw [if_neg c19] at H
                   exact absurd H (by simp)
                 ·rw [if_neg c18] at H
                  exact absurd H (by simp)
                ·rw [if_neg c16] at H
                 have c16b0 : (((rd_T54 x3_1 x5_2).f0).toList == ((rd_T54 l0 x4_1).f0).toList) = false := beq_eq_false_iff_ne.mpr c16
                 have c16b1 : (((rd_T54 x3_1 x5_2).f0).toList != ((rd_T54 l0 x4_1).f0).toList) = true := bne_iff_ne.mpr c16
                 have c27b0 := eq_true (od : 0 ≤ x5_2)
                 have c28b0 := eq_true (od : x5_2 ≤ (x3_1.length : Int))
                 obtain ⟨y319, hy319⟩ : ∃ y_ : List (S54), y_ = (x3_1.drop (x5_2 : Int).toNat) := ⟨_, rfl⟩
                 replace H : (if y307.length + y319.length < 4398046511104 then (archivistref06_Of.l0 k2 l0 (y307 ++ y319) (wrap64 (x4_1 + 1))) else (none)) = some r := by first | (rw [hy319]; with_reducible exact H) | (have H2_ := (Option.bind_some _ _).symm.trans H; rw [hy319]; with_reducible exact H2_) | (have H2_ := (Option.bind_some _ _).symm.trans H; with_reducible exact H2_) | with_reducible exact H | (rw [hy319]; exact H) | exact H
                 have Ny319 := Aside0.mk hy319
                 clear hy319
                 by_cases c29 : y307.length + y319.length < 4398046511104
                 ·rw [if_pos c29] at H
                  have LMc29 := Aside0.mk c29
                  clear c29
                  obtain ⟨y323, hy323⟩ : ∃ y_ : List (S54), y_ = (y307 ++ y319) := ⟨_, rfl⟩
                  replace H : (archivistref06_Of.l0 k2 l0 y323 (wrap64 (x4_1 + 1))) = some r := by first | (rw [hy323]; with_reducible exact H) | (have H2_ := (Option.bind_some _ _).symm.trans H; rw [hy323]; with_reducible exact H2_) | (have H2_ := (Option.bind_some _ _).symm.trans H; with_reducible exact H2_) | with_reducible exact H | (rw [hy323]; exact H) | exact H
                  have Ny323 := Aside0.mk hy323
                  clear hy323
                  have H' := Aside0.mk H
                  clear H
                  obtain ⟨Ao30, co30, eo30⟩ := Kd.R_slice HO_3.out
                  subst eo30
                  have p297 : 0 ≤ (x5_2 : Int) := od
                  have q297 : x5_2 < (x3_1.length : Int) := od
                  obtain ⟨ad297, e297, hx297_0, hx297_1⟩ := at_T54 (Kd.R_reads' HO_3.out).2.2 x5_2 p297 q297
                  cases e297
                  replace p297 := eq_true p297
                  replace q297 := eq_true q297
                  have p298 : 0 ≤ (x4_1 : Int) := od
                  have q298 : x4_1 < (l0.length : Int) := od
                  obtain ⟨ad298, e298, hx298_0, hx298_1⟩ := at_T54 HR0.out x4_1 p298 q298
                  obtain rfl : ad295 = ad298 := (by injection e298)
                  replace hx298_0 := cu HB.out hx298_0
                  replace hx298_1 := cu HB.out hx298_1
                  replace p298 := eq_true p298
                  replace q298 := eq_true q298
                  have q31 : (x5_2 : Int) ≤ ((x3_1.length : Int) : Int) := od
                  obtain ⟨i031, hi031, _, hsz31, _⟩ := info_parts info54
                  have hroom31 : x3_1.length ≤ co30 := (Kd.R_reads' HO_3.out).2.1
                  have hC31 : Kd.C k54 _ (some ad297) x3_1.length x3_1 := (Kd.R_reads' HO_3.out).2.2
                  have hcut31 := cut_to (P := Try.prog) 30 54 .i64 Try.underlying30 hi031 (some ad297) x3_1.length co30 x5_2 (od) q31 hroom31
                  have hr31 := Kd.C_take (m := (x5_2 : Int).toNat) hC31 (by omega)
                  have hy31 : y299.length = (x5_2 : Int).toNat := (by rw [Ny299.out, List.length_take]; omega)
                  rw [← Ny299.out] at hr31
                  rw [← hy31] at hcut31
                  have HR302 := Aside0.mk hr31
                  have HC302 := Aside0.mk (show y299.length ≤ co30 from by omega)
                  clear hr31 hC31 hroom31 hi031 hsz31
                  have KY31 := Aside0.mk hy31
                  clear hy31
                  have KL31 := Aside0.mk (show (x5_2 : Int).toNat ≤ x3_1.length from by omega)
                  replace q31 := eq_true q31
                  go_wp2_with (first | ((with_reducible refine gate_builtin (b := .append) (xs := #[.tmp 39, .tmp 42]) rfl ?_); at_builtin; refine Kd.R_append_rows k54 (w0 := w) w.heap.size rfl (.tmp 39) (.tmp 42) 30 54 (.agg #[(.string ⟨#[]⟩), (.string ⟨#[]⟩)]) 32 rfl Try.underlying30 info54 rfl (by decide) (by omega) (.slice none 0 0) ([] : List (S54)) y299 _ _ _ (fun k_ => some k_ ≠ (.slice (some ad297) x3_1.length co30 : Value).ownBlock) (fun _ => False) rfl rfl ?aO ?aR (fun _ _ h => h) (fun _ h => h.elim) ?aF ?aB ?aS ?aL ?_; (case aR => repeat (first | exact (by repeat (first | (with_reducible exact HR302.out) | (with_reducible refine Kd.C_alloc ?_ _) | (with_reducible refine Kd.C_drewN ?_ _) | (with_reducible refine Kd.C_drew ?_) | exact HR302.out)) | (with_reducible refine Kd.C_alloc ?_ _) | (with_reducible refine Kd.C_drewN ?_ _) | (with_reducible refine Kd.C_drew ?_))); (case aB => exact bl); (case aF => exact (fun k_ hk => Kd.fresh' (Kd.R_lt (rz HO_3.out)) k_ hk)); (case aO => exact ((Kd.R_nil _ _ _ _ (fun k_ => some k_ ≠ (.slice (some ad297) x3_1.length co30 : Value).ownBlock)))); (case aS => exact (below_size bl)); (case aL => have := LMc14.out; omega); intro v304 w32 ho hb hg hat; rw [← Ny303.out] at ho; have n0_ := Aside0.mk (Kd.R_after (Kd.R_apart_nil (rz HO_3.out)) hg hat); have n1_ := Aside0.mk (hb); have n2_ := Aside0.mk ((show Kd.C k54 w32 (some ad297) y299.length y299 from by rw [Ny299.out]; exact Kd.C_take (m := (x5_2 : Int).toNat) ((Kd.R_reads' (Kd.R_after (Kd.R_apart_nil (rz HO_3.out)) hg hat)).2.2) KL31.out)); have n3_ := Aside0.mk (ho); clear HO_3; clear HB; clear HR302; have HO_3 := n0_; have HB := n1_; have HR302 := n2_; have HO305 := n3_; clear n0_ n1_ n2_ n3_; clear ho hb hg hat; have p306 : 0 ≤ (x4_1 : Int) := od; have q306 : x4_1 < (l0.length : Int) := od; obtain ⟨ad306, e306, hx306_0, hx306_1⟩ := at_T54 HR0.out x4_1 p306 q306; obtain rfl : ad295 = ad306 := (by injection e306); replace hx306_0 := cu HB.out hx306_0; replace hx306_1 := cu HB.out hx306_1; replace p306 := eq_true p306; replace q306 := eq_true q306) | ((with_reducible refine gate_builtin (b := .append) (xs := #[.tmp 44, .tmp 49]) rfl ?_); at_builtin; refine Kd.R_append k54 (w0 := w) w.heap.size rfl (.tmp 44) (.tmp 49) 30 54 (.agg #[(.string ⟨#[]⟩), (.string ⟨#[]⟩)]) 32 rfl Try.underlying30 info54 rfl (by decide) (by omega) v304 y303 (⟨(rd_T54 l0 x4_1).f0, (rd_T54 l0 x4_1).f1⟩ : S54) [.string ((rd_T54 l0 x4_1).f0), .string ((rd_T54 l0 x4_1).f1)] (fun k_ => some k_ ≠ (.slice (some ad297) x3_1.length co30 : Value).ownBlock) (fun _ => False) rfl rfl ?aP (fun _ hk => hk.elim) ?aF ?aO ?aB ?aS ?aL ?_; (case aP => exact k54_mkM _ _ _ (⟨(rd_T54 l0 x4_1).f0, (rd_T54 l0 x4_1).f1⟩ : S54)); (case aB => exact bl); (case aF => exact (fun k_ hk => Kd.fresh' (Kd.R_lt (rz HO_3.out)) k_ hk)); (case aO => exact (rz HO305.out)); (case aS => exact (below_size bl)); (case aL => have := LMc15.out; omega); intro v308 w33 ho hb hg hat; rw [← Ny307.out] at ho; have n0_ := Aside0.mk (Kd.R_after (ok := (fun _ => True)) (rz HO_3.out) hg hat); have n1_ := Aside0.mk (hb); have n2_ := Aside0.mk ((show Kd.C k54 w33 (some ad297) y299.length y299 from by rw [Ny299.out]; exact Kd.C_take (m := (x5_2 : Int).toNat) ((Kd.R_reads' (Kd.R_after (ok := (fun _ => True)) (rz HO_3.out) hg hat)).2.2) KL31.out)); have n3_ := Aside0.mk (ho); clear HO_3; clear HB; clear HR302; clear HO305; have HO_3 := n0_; have HB := n1_; have HR302 := n2_; have HO309 := n3_; clear n0_ n1_ n2_ n3_; clear ho hb hg hat; have p310 : 0 ≤ (x5_2 : Int) := od; have q310 : x5_2 < (x3_1.length : Int) := od; obtain ⟨ad310, e310, hx310_0, hx310_1⟩ := at_T54 (Kd.R_reads' HO_3.out).2.2 x5_2 p310 q310; obtain rfl : ad297 = ad310 := (by injection e310); replace p310 := eq_true p310; replace q310 := eq_true q310; have p311 : 0 ≤ (x4_1 : Int) := od; have q311 : x4_1 < (l0.length : Int) := od; obtain ⟨ad311, e311, hx311_0, hx311_1⟩ := at_T54 HR0.out x4_1 p311 q311; obtain rfl : ad295 = ad311 := (by injection e311); replace hx311_0 := cu HB.out hx311_0; replace hx311_1 := cu HB.out hx311_1; replace p311 := eq_true p311; replace q311 := eq_true q311; have q34 : (x5_2 : Int) ≤ ((x3_1.length : Int) : Int) := od; obtain ⟨i034, hi034, _, hsz34, _⟩ := info_parts info54; have hroom34 : x3_1.length ≤ co30 := (Kd.R_reads' HO_3.out).2.1; have hC34 : Kd.C k54 _ (some ad297) x3_1.length x3_1 := (Kd.R_reads' HO_3.out).2.2; have q034 : (0 : Int) ≤ (x5_2 : Int) := od; have hcut34 := cut_from (P := Try.prog) 30 54 .i64 Try.underlying30 hi034 2 hsz34 (some ad297) x3_1.length co30 x5_2 q034 q34; have hr34 := Kd.C_drop (m := (x5_2 : Int).toNat) (c := co30) hC34 (by omega) hroom34; obtain ⟨A34, hA34⟩ : ∃ A1, A1 = (if co30 = (x5_2 : Int).toNat then (some ad297) else ((some ad297) : Option Addr).map (·.add ((x5_2 : Int).toNat * 2))) := ⟨_, rfl⟩; obtain ⟨c34, hc34⟩ : ∃ c1, c1 = co30 - (x5_2 : Int).toNat := ⟨_, rfl⟩; have hy34 : y319.length = x3_1.length - (x5_2 : Int).toNat := (by rw [Ny319.out, List.length_drop] <;> omega); rw [show (x3_1).drop (x5_2 : Int).toNat = y319 from Ny319.out.symm] at hr34; replace hr34 : Kd.C k54 _ A34 y319.length y319 := (by rw [hA34]; exact hr34); rw [← hy34, ← hA34, ← hc34] at hcut34; have HR322 := Aside0.mk hr34; have HC322 := Aside0.mk (show y319.length ≤ c34 from by rw [hy34, hc34]; exact Nat.sub_le_sub_right hroom34 _); clear hr34 hC34 hroom34 hi034 hsz34 hc34; have KY34 := Aside0.mk hy34; have KA34 := Aside0.mk hA34; clear hy34 hA34; have KL34 := Aside0.mk (show (x5_2 : Int).toNat ≤ x3_1.length from by omega); replace q34 := eq_true q34) | ((with_reducible refine gate_builtin (b := .append) (xs := #[.tmp 70, .tmp 73]) rfl ?_); at_builtin; refine Kd.R_append_rows k54 (w0 := w) w.heap.size rfl (.tmp 70) (.tmp 73) 30 54 (.agg #[(.string ⟨#[]⟩), (.string ⟨#[]⟩)]) 32 rfl Try.underlying30 info54 rfl (by decide) (by omega) v308 y307 y319 _ _ _ (fun k_ => some k_ ≠ (.slice (some ad297) x3_1.length co30 : Value).ownBlock) (fun _ => False) rfl rfl ?aO ?aR (fun _ _ h => h) (fun _ h => h.elim) ?aF ?aB ?aS ?aL ?_; (case aR => repeat (first | exact (by repeat (first | (with_reducible exact HR322.out) | (with_reducible refine Kd.C_alloc ?_ _) | (with_reducible refine Kd.C_drewN ?_ _) | (with_reducible refine Kd.C_drew ?_) | exact HR322.out)) | (with_reducible refine Kd.C_alloc ?_ _) | (with_reducible refine Kd.C_drewN ?_ _) | (with_reducible refine Kd.C_drew ?_))); (case aB => exact bl); (case aF => exact (fun k_ hk => Kd.fresh' (Kd.R_lt (rz HO_3.out)) k_ hk)); (case aO => exact (rz HO309.out)); (case aS => exact (below_size bl)); (case aL => have := LMc29.out; omega); intro v324 w35 ho hb hg hat; rw [← Ny323.out] at ho; have n0_ := Aside0.mk (Kd.R_after (ok := (fun _ => True)) (rz HO_3.out) hg hat); have n1_ := Aside0.mk (hb); have n2_ := Aside0.mk ((show Kd.C k54 w35 (some ad297) y299.length y299 from by rw [Ny299.out]; exact Kd.C_take (m := (x5_2 : Int).toNat) ((Kd.R_reads' (Kd.R_after (ok := (fun _ => True)) (rz HO_3.out) hg hat)).2.2) KL31.out)); have n3_ := Aside0.mk ((show Kd.C k54 w35 A34 y319.length y319 from by rw [Ny319.out, KA34.out]; exact Kd.C_drop (m := (x5_2 : Int).toNat) (c := co30) ((Kd.R_reads' (Kd.R_after (ok := (fun _ => True)) (rz HO_3.out) hg hat)).2.2) KL34.out ((Kd.R_reads' (Kd.R_after (ok := (fun _ => True)) (rz HO_3.out) hg hat)).2.1))); have n4_ := Aside0.mk (ho); clear HO_3; clear HB; clear HR302; clear HR322; clear HO309; have HO_3 := n0_; have HB := n1_; have HR302 := n2_; have HR322 := n3_; have HO325 := n4_; clear n0_ n1_ n2_ n3_ n4_; clear ho hb hg hat))
                  repeat (go_quiet (first | ((with_reducible refine gate_builtin (b := .append) (xs := #[.tmp 39, .tmp 42]) rfl ?_); at_builtin; refine Kd.R_append_rows k54 (w0 := w) w.heap.size rfl (.tmp 39) (.tmp 42) 30 54 (.agg #[(.string ⟨#[]⟩), (.string ⟨#[]⟩)]) 32 rfl Try.underlying30 info54 rfl (by decide) (by omega) (.slice none 0 0) ([] : List (S54)) y299 _ _ _ (fun k_ => some k_ ≠ (.slice (some ad297) x3_1.length co30 : Value).ownBlock) (fun _ => False) rfl rfl ?aO ?aR (fun _ _ h => h) (fun _ h => h.elim) ?aF ?aB ?aS ?aL ?_; (case aR => repeat (first | exact (by repeat (first | (with_reducible exact HR302.out) | (with_reducible refine Kd.C_alloc ?_ _) | (with_reducible refine Kd.C_drewN ?_ _) | (with_reducible refine Kd.C_drew ?_) | exact HR302.out)) | (with_reducible refine Kd.C_alloc ?_ _) | (with_reducible refine Kd.C_drewN ?_ _) | (with_reducible refine Kd.C_drew ?_))); (case aB => exact bl); (case aF => exact (fun k_ hk => Kd.fresh' (Kd.R_lt (rz HO_3.out)) k_ hk)); (case aO => exact ((Kd.R_nil _ _ _ _ (fun k_ => some k_ ≠ (.slice (some ad297) x3_1.length co30 : Value).ownBlock)))); (case aS => exact (below_size bl)); (case aL => have := LMc14.out; omega); intro v304 w32 ho hb hg hat; rw [← Ny303.out] at ho; have n0_ := Aside0.mk (Kd.R_after (Kd.R_apart_nil (rz HO_3.out)) hg hat); have n1_ := Aside0.mk (hb); have n2_ := Aside0.mk ((show Kd.C k54 w32 (some ad297) y299.length y299 from by rw [Ny299.out]; exact Kd.C_take (m := (x5_2 : Int).toNat) ((Kd.R_reads' (Kd.R_after (Kd.R_apart_nil (rz HO_3.out)) hg hat)).2.2) KL31.out)); have n3_ := Aside0.mk (ho); clear HO_3; clear HB; clear HR302; have HO_3 := n0_; have HB := n1_; have HR302 := n2_; have HO305 := n3_; clear n0_ n1_ n2_ n3_; clear ho hb hg hat; have p306 : 0 ≤ (x4_1 : Int) := od; have q306 : x4_1 < (l0.length : Int) := od; obtain ⟨ad306, e306, hx306_0, hx306_1⟩ := at_T54 HR0.out x4_1 p306 q306; obtain rfl : ad295 = ad306 := (by injection e306); replace hx306_0 := cu HB.out hx306_0; replace hx306_1 := cu HB.out hx306_1; replace p306 := eq_true p306; replace q306 := eq_true q306) | ((with_reducible refine gate_builtin (b := .append) (xs := #[.tmp 44, .tmp 49]) rfl ?_); at_builtin; refine Kd.R_append k54 (w0 := w) w.heap.size rfl (.tmp 44) (.tmp 49) 30 54 (.agg #[(.string ⟨#[]⟩), (.string ⟨#[]⟩)]) 32 rfl Try.underlying30 info54 rfl (by decide) (by omega) v304 y303 (⟨(rd_T54 l0 x4_1).f0, (rd_T54 l0 x4_1).f1⟩ : S54) [.string ((rd_T54 l0 x4_1).f0), .string ((rd_T54 l0 x4_1).f1)] (fun k_ => some k_ ≠ (.slice (some ad297) x3_1.length co30 : Value).ownBlock) (fun _ => False) rfl rfl ?aP (fun _ hk => hk.elim) ?aF ?aO ?aB ?aS ?aL ?_; (case aP => exact k54_mkM _ _ _ (⟨(rd_T54 l0 x4_1).f0, (rd_T54 l0 x4_1).f1⟩ : S54)); (case aB => exact bl); (case aF => exact (fun k_ hk => Kd.fresh' (Kd.R_lt (rz HO_3.out)) k_ hk)); (case aO => exact (rz HO305.out)); (case aS => exact (below_size bl)); (case aL => have := LMc15.out; omega); intro v308 w33 ho hb hg hat; rw [← Ny307.out] at ho; have n0_ := Aside0.mk (Kd.R_after (ok := (fun _ => True)) (rz HO_3.out) hg hat); have n1_ := Aside0.mk (hb); have n2_ := Aside0.mk ((show Kd.C k54 w33 (some ad297) y299.length y299 from by rw [Ny299.out]; exact Kd.C_take (m := (x5_2 : Int).toNat) ((Kd.R_reads' (Kd.R_after (ok := (fun _ => True)) (rz HO_3.out) hg hat)).2.2) KL31.out)); have n3_ := Aside0.mk (ho); clear HO_3; clear HB; clear HR302; clear HO305; have HO_3 := n0_; have HB := n1_; have HR302 := n2_; have HO309 := n3_; clear n0_ n1_ n2_ n3_; clear ho hb hg hat; have p310 : 0 ≤ (x5_2 : Int) := od; have q310 : x5_2 < (x3_1.length : Int) := od; obtain ⟨ad310, e310, hx310_0, hx310_1⟩ := at_T54 (Kd.R_reads' HO_3.out).2.2 x5_2 p310 q310; obtain rfl : ad297 = ad310 := (by injection e310); replace p310 := eq_true p310; replace q310 := eq_true q310; have p311 : 0 ≤ (x4_1 : Int) := od; have q311 : x4_1 < (l0.length : Int) := od; obtain ⟨ad311, e311, hx311_0, hx311_1⟩ := at_T54 HR0.out x4_1 p311 q311; obtain rfl : ad295 = ad311 := (by injection e311); replace hx311_0 := cu HB.out hx311_0; replace hx311_1 := cu HB.out hx311_1; replace p311 := eq_true p311; replace q311 := eq_true q311; have q34 : (x5_2 : Int) ≤ ((x3_1.length : Int) : Int) := od; obtain ⟨i034, hi034, _, hsz34, _⟩ := info_parts info54; have hroom34 : x3_1.length ≤ co30 := (Kd.R_reads' HO_3.out).2.1; have hC34 : Kd.C k54 _ (some ad297) x3_1.length x3_1 := (Kd.R_reads' HO_3.out).2.2; have q034 : (0 : Int) ≤ (x5_2 : Int) := od; have hcut34 := cut_from (P := Try.prog) 30 54 .i64 Try.underlying30 hi034 2 hsz34 (some ad297) x3_1.length co30 x5_2 q034 q34; have hr34 := Kd.C_drop (m := (x5_2 : Int).toNat) (c := co30) hC34 (by omega) hroom34; obtain ⟨A34, hA34⟩ : ∃ A1, A1 = (if co30 = (x5_2 : Int).toNat then (some ad297) else ((some ad297) : Option Addr).map (·.add ((x5_2 : Int).toNat * 2))) := ⟨_, rfl⟩; obtain ⟨c34, hc34⟩ : ∃ c1, c1 = co30 - (x5_2 : Int).toNat := ⟨_, rfl⟩; have hy34 : y319.length = x3_1.length - (x5_2 : Int).toNat := (by rw [Ny319.out, List.length_drop] <;> omega); rw [show (x3_1).drop (x5_2 : Int).toNat = y319 from Ny319.out.symm] at hr34; replace hr34 : Kd.C k54 _ A34 y319.length y319 := (by rw [hA34]; exact hr34); rw [← hy34, ← hA34, ← hc34] at hcut34; have HR322 := Aside0.mk hr34; have HC322 := Aside0.mk (show y319.length ≤ c34 from by rw [hy34, hc34]; exact Nat.sub_le_sub_right hroom34 _); clear hr34 hC34 hroom34 hi034 hsz34 hc34; have KY34 := Aside0.mk hy34; have KA34 := Aside0.mk hA34; clear hy34 hA34; have KL34 := Aside0.mk (show (x5_2 : Int).toNat ≤ x3_1.length from by omega); replace q34 := eq_true q34) | ((with_reducible refine gate_builtin (b := .append) (xs := #[.tmp 70, .tmp 73]) rfl ?_); at_builtin; refine Kd.R_append_rows k54 (w0 := w) w.heap.size rfl (.tmp 70) (.tmp 73) 30 54 (.agg #[(.string ⟨#[]⟩), (.string ⟨#[]⟩)]) 32 rfl Try.underlying30 info54 rfl (by decide) (by omega) v308 y307 y319 _ _ _ (fun k_ => some k_ ≠ (.slice (some ad297) x3_1.length co30 : Value).ownBlock) (fun _ => False) rfl rfl ?aO ?aR (fun _ _ h => h) (fun _ h => h.elim) ?aF ?aB ?aS ?aL ?_; (case aR => repeat (first | exact (by repeat (first | (with_reducible exact HR322.out) | (with_reducible refine Kd.C_alloc ?_ _) | (with_reducible refine Kd.C_drewN ?_ _) | (with_reducible refine Kd.C_drew ?_) | exact HR322.out)) | (with_reducible refine Kd.C_alloc ?_ _) | (with_reducible refine Kd.C_drewN ?_ _) | (with_reducible refine Kd.C_drew ?_))); (case aB => exact bl); (case aF => exact (fun k_ hk => Kd.fresh' (Kd.R_lt (rz HO_3.out)) k_ hk)); (case aO => exact (rz HO309.out)); (case aS => exact (below_size bl)); (case aL => have := LMc29.out; omega); intro v324 w35 ho hb hg hat; rw [← Ny323.out] at ho; have n0_ := Aside0.mk (Kd.R_after (ok := (fun _ => True)) (rz HO_3.out) hg hat); have n1_ := Aside0.mk (hb); have n2_ := Aside0.mk ((show Kd.C k54 w35 (some ad297) y299.length y299 from by rw [Ny299.out]; exact Kd.C_take (m := (x5_2 : Int).toNat) ((Kd.R_reads' (Kd.R_after (ok := (fun _ => True)) (rz HO_3.out) hg hat)).2.2) KL31.out)); have n3_ := Aside0.mk ((show Kd.C k54 w35 A34 y319.length y319 from by rw [Ny319.out, KA34.out]; exact Kd.C_drop (m := (x5_2 : Int).toNat) (c := co30) ((Kd.R_reads' (Kd.R_after (ok := (fun _ => True)) (rz HO_3.out) hg hat)).2.2) KL34.out ((Kd.R_reads' (Kd.R_after (ok := (fun _ => True)) (rz HO_3.out) hg hat)).2.1))); have n4_ := Aside0.mk (ho); clear HO_3; clear HB; clear HR302; clear HR322; clear HO309; have HO_3 := n0_; have HB := n1_; have HR302 := n2_; have HR322 := n3_; have HO325 := n4_; clear n0_ n1_ n2_ n3_ n4_; clear ho hb hg hat)); try go_wp2_with (first | ((with_reducible refine gate_builtin (b := .append) (xs := #[.tmp 39, .tmp 42]) rfl ?_); at_builtin; refine Kd.R_append_rows k54 (w0 := w) w.heap.size rfl (.tmp 39) (.tmp 42) 30 54 (.agg #[(.string ⟨#[]⟩), (.string ⟨#[]⟩)]) 32 rfl Try.underlying30 info54 rfl (by decide) (by omega) (.slice none 0 0) ([] : List (S54)) y299 _ _ _ (fun k_ => some k_ ≠ (.slice (some ad297) x3_1.length co30 : Value).ownBlock) (fun _ => False) rfl rfl ?aO ?aR (fun _ _ h => h) (fun _ h => h.elim) ?aF ?aB ?aS ?aL ?_; (case aR => repeat (first | exact (by repeat (first | (with_reducible exact HR302.out) | (with_reducible refine Kd.C_alloc ?_ _) | (with_reducible refine Kd.C_drewN ?_ _) | (with_reducible refine Kd.C_drew ?_) | exact HR302.out)) | (with_reducible refine Kd.C_alloc ?_ _) | (with_reducible refine Kd.C_drewN ?_ _) | (with_reducible refine Kd.C_drew ?_))); (case aB => exact bl); (case aF => exact (fun k_ hk => Kd.fresh' (Kd.R_lt (rz HO_3.out)) k_ hk)); (case aO => exact ((Kd.R_nil _ _ _ _ (fun k_ => some k_ ≠ (.slice (some ad297) x3_1.length co30 : Value).ownBlock)))); (case aS => exact (below_size bl)); (case aL => have := LMc14.out; omega); intro v304 w32 ho hb hg hat; rw [← Ny303.out] at ho; have n0_ := Aside0.mk (Kd.R_after (Kd.R_apart_nil (rz HO_3.out)) hg hat); have n1_ := Aside0.mk (hb); have n2_ := Aside0.mk ((show Kd.C k54 w32 (some ad297) y299.length y299 from by rw [Ny299.out]; exact Kd.C_take (m := (x5_2 : Int).toNat) ((Kd.R_reads' (Kd.R_after (Kd.R_apart_nil (rz HO_3.out)) hg hat)).2.2) KL31.out)); have n3_ := Aside0.mk (ho); clear HO_3; clear HB; clear HR302; have HO_3 := n0_; have HB := n1_; have HR302 := n2_; have HO305 := n3_; clear n0_ n1_ n2_ n3_; clear ho hb hg hat; have p306 : 0 ≤ (x4_1 : Int) := od; have q306 : x4_1 < (l0.length : Int) := od; obtain ⟨ad306, e306, hx306_0, hx306_1⟩ := at_T54 HR0.out x4_1 p306 q306; obtain rfl : ad295 = ad306 := (by injection e306); replace hx306_0 := cu HB.out hx306_0; replace hx306_1 := cu HB.out hx306_1; replace p306 := eq_true p306; replace q306 := eq_true q306) | ((with_reducible refine gate_builtin (b := .append) (xs := #[.tmp 44, .tmp 49]) rfl ?_); at_builtin; refine Kd.R_append k54 (w0 := w) w.heap.size rfl (.tmp 44) (.tmp 49) 30 54 (.agg #[(.string ⟨#[]⟩), (.string ⟨#[]⟩)]) 32 rfl Try.underlying30 info54 rfl (by decide) (by omega) v304 y303 (⟨(rd_T54 l0 x4_1).f0, (rd_T54 l0 x4_1).f1⟩ : S54) [.string ((rd_T54 l0 x4_1).f0), .string ((rd_T54 l0 x4_1).f1)] (fun k_ => some k_ ≠ (.slice (some ad297) x3_1.length co30 : Value).ownBlock) (fun _ => False) rfl rfl ?aP (fun _ hk => hk.elim) ?aF ?aO ?aB ?aS ?aL ?_; (case aP => exact k54_mkM _ _ _ (⟨(rd_T54 l0 x4_1).f0, (rd_T54 l0 x4_1).f1⟩ : S54)); (case aB => exact bl); (case aF => exact (fun k_ hk => Kd.fresh' (Kd.R_lt (rz HO_3.out)) k_ hk)); (case aO => exact (rz HO305.out)); (case aS => exact (below_size bl)); (case aL => have := LMc15.out; omega); intro v308 w33 ho hb hg hat; rw [← Ny307.out] at ho; have n0_ := Aside0.mk (Kd.R_after (ok := (fun _ => True)) (rz HO_3.out) hg hat); have n1_ := Aside0.mk (hb); have n2_ := Aside0.mk ((show Kd.C k54 w33 (some ad297) y299.length y299 from by rw [Ny299.out]; exact Kd.C_take (m := (x5_2 : Int).toNat) ((Kd.R_reads' (Kd.R_after (ok := (fun _ => True)) (rz HO_3.out) hg hat)).2.2) KL31.out)); have n3_ := Aside0.mk (ho); clear HO_3; clear HB; clear HR302; clear HO305; have HO_3 := n0_; have HB := n1_; have HR302 := n2_; have HO309 := n3_; clear n0_ n1_ n2_ n3_; clear ho hb hg hat; have p310 : 0 ≤ (x5_2 : Int) := od; have q310 : x5_2 < (x3_1.length : Int) := od; obtain ⟨ad310, e310, hx310_0, hx310_1⟩ := at_T54 (Kd.R_reads' HO_3.out).2.2 x5_2 p310 q310; obtain rfl : ad297 = ad310 := (by injection e310); replace p310 := eq_true p310; replace q310 := eq_true q310; have p311 : 0 ≤ (x4_1 : Int) := od; have q311 : x4_1 < (l0.length : Int) := od; obtain ⟨ad311, e311, hx311_0, hx311_1⟩ := at_T54 HR0.out x4_1 p311 q311; obtain rfl : ad295 = ad311 := (by injection e311); replace hx311_0 := cu HB.out hx311_0; replace hx311_1 := cu HB.out hx311_1; replace p311 := eq_true p311; replace q311 := eq_true q311; have q34 : (x5_2 : Int) ≤ ((x3_1.length : Int) : Int) := od; obtain ⟨i034, hi034, _, hsz34, _⟩ := info_parts info54; have hroom34 : x3_1.length ≤ co30 := (Kd.R_reads' HO_3.out).2.1; have hC34 : Kd.C k54 _ (some ad297) x3_1.length x3_1 := (Kd.R_reads' HO_3.out).2.2; have q034 : (0 : Int) ≤ (x5_2 : Int) := od; have hcut34 := cut_from (P := Try.prog) 30 54 .i64 Try.underlying30 hi034 2 hsz34 (some ad297) x3_1.length co30 x5_2 q034 q34; have hr34 := Kd.C_drop (m := (x5_2 : Int).toNat) (c := co30) hC34 (by omega) hroom34; obtain ⟨A34, hA34⟩ : ∃ A1, A1 = (if co30 = (x5_2 : Int).toNat then (some ad297) else ((some ad297) : Option Addr).map (·.add ((x5_2 : Int).toNat * 2))) := ⟨_, rfl⟩; obtain ⟨c34, hc34⟩ : ∃ c1, c1 = co30 - (x5_2 : Int).toNat := ⟨_, rfl⟩; have hy34 : y319.length = x3_1.length - (x5_2 : Int).toNat := (by rw [Ny319.out, List.length_drop] <;> omega); rw [show (x3_1).drop (x5_2 : Int).toNat = y319 from Ny319.out.symm] at hr34; replace hr34 : Kd.C k54 _ A34 y319.length y319 := (by rw [hA34]; exact hr34); rw [← hy34, ← hA34, ← hc34] at hcut34; have HR322 := Aside0.mk hr34; have HC322 := Aside0.mk (show y319.length ≤ c34 from by rw [hy34, hc34]; exact Nat.sub_le_sub_right hroom34 _); clear hr34 hC34 hroom34 hi034 hsz34 hc34; have KY34 := Aside0.mk hy34; have KA34 := Aside0.mk hA34; clear hy34 hA34; have KL34 := Aside0.mk (show (x5_2 : Int).toNat ≤ x3_1.length from by omega); replace q34 := eq_true q34) | ((with_reducible refine gate_builtin (b := .append) (xs := #[.tmp 70, .tmp 73]) rfl ?_); at_builtin; refine Kd.R_append_rows k54 (w0 := w) w.heap.size rfl (.tmp 70) (.tmp 73) 30 54 (.agg #[(.string ⟨#[]⟩), (.string ⟨#[]⟩)]) 32 rfl Try.underlying30 info54 rfl (by decide) (by omega) v308 y307 y319 _ _ _ (fun k_ => some k_ ≠ (.slice (some ad297) x3_1.length co30 : Value).ownBlock) (fun _ => False) rfl rfl ?aO ?aR (fun _ _ h => h) (fun _ h => h.elim) ?aF ?aB ?aS ?aL ?_; (case aR => repeat (first | exact (by repeat (first | (with_reducible exact HR322.out) | (with_reducible refine Kd.C_alloc ?_ _) | (with_reducible refine Kd.C_drewN ?_ _) | (with_reducible refine Kd.C_drew ?_) | exact HR322.out)) | (with_reducible refine Kd.C_alloc ?_ _) | (with_reducible refine Kd.C_drewN ?_ _) | (with_reducible refine Kd.C_drew ?_))); (case aB => exact bl); (case aF => exact (fun k_ hk => Kd.fresh' (Kd.R_lt (rz HO_3.out)) k_ hk)); (case aO => exact (rz HO309.out)); (case aS => exact (below_size bl)); (case aL => have := LMc29.out; omega); intro v324 w35 ho hb hg hat; rw [← Ny323.out] at ho; have n0_ := Aside0.mk (Kd.R_after (ok := (fun _ => True)) (rz HO_3.out) hg hat); have n1_ := Aside0.mk (hb); have n2_ := Aside0.mk ((show Kd.C k54 w35 (some ad297) y299.length y299 from by rw [Ny299.out]; exact Kd.C_take (m := (x5_2 : Int).toNat) ((Kd.R_reads' (Kd.R_after (ok := (fun _ => True)) (rz HO_3.out) hg hat)).2.2) KL31.out)); have n3_ := Aside0.mk ((show Kd.C k54 w35 A34 y319.length y319 from by rw [Ny319.out, KA34.out]; exact Kd.C_drop (m := (x5_2 : Int).toNat) (c := co30) ((Kd.R_reads' (Kd.R_after (ok := (fun _ => True)) (rz HO_3.out) hg hat)).2.2) KL34.out ((Kd.R_reads' (Kd.R_after (ok := (fun _ => True)) (rz HO_3.out) hg hat)).2.1))); have n4_ := Aside0.mk (ho); clear HO_3; clear HB; clear HR302; clear HR322; clear HO309; have HO_3 := n0_; have HB := n1_; have HR302 := n2_; have HR322 := n3_; have HO325 := n4_; clear n0_ n1_ n2_ n3_ n4_; clear ho hb hg hat)))
                  go_roundg k2
                  case measure => have := HK1.out; have := HK2.out; omega
                  case rel => exact ⟨(y323), (wrap64 (x4_1 + 1)), rs, H', ⟨by have := HK1.out; have := HK2.out; omega⟩, ⟨by (with_reducible repeat (first | apply Kd.R_alloc | apply Kd.R_drewN | apply Kd.R_drew)); exact Kd.R_mono HO325.out (fun _ hk => trivial)⟩, ⟨bl⟩⟩
                 ·rw [if_neg c29] at H
                  exact absurd H (by simp)
               ·rw [if_neg c15] at H
                exact absurd H (by simp)
              ·rw [if_neg c14] at H
               exact absurd H (by simp)
             ·rw [if_neg c13] at H
              exact absurd H (by simp)
           ·rw [if_neg c9] at H
            exact absurd H (by simp)
          ·rw [if_neg c8] at H
           exact absurd H (by simp)
         ·rw [if_neg c7] at H
          exact absurd H (by simp)
        ·rw [if_neg c6] at H
         have c6b0 : decide (x5_2 < (x3_1.length : Int)) = false := decide_eq_false c6
         clear c6
         by_cases c36 : 0 ≤ x5_2
         ·rw [if_pos c36] at H
          have c36b0 := eq_true c36
          have c36b1 : decide (0 ≤ x5_2) = true := decide_eq_true c36
          clear c36
          by_cases c37 : x5_2 ≤ (x3_1.length : Int)
          ·rw [if_pos c37] at H
           have c37b0 := eq_true c37
           have c37b1 : decide (x5_2 ≤ (x3_1.length : Int)) = true := decide_eq_true c37
           clear c37
           obtain ⟨y326, hy326⟩ : ∃ y_ : List (S54), y_ = (x3_1.take (x5_2 : Int).toNat) := ⟨_, rfl⟩
           replace H : (if ([] : List (S54)).length + y326.length < 4398046511104 then ((some (([] : List (S54)) ++ y326 : List (S54))).bind fun y330 => (if 0 ≤ x4_1 then (if x4_1 < (l0.length : Int) then (if y330.length < 4398046511104 then ((some (y330 ++ [(⟨(rd_T54 l0 x4_1).f0, (rd_T54 l0 x4_1).f1⟩ : S54)] : List (S54))).bind fun y334 => ((some (x3_1.drop (x5_2 : Int).toNat : List (S54))).bind fun y337 => (if y334.length + y337.length < 4398046511104 then (archivistref06_Of.l0 k2 l0 (y334 ++ y337) (wrap64 (x4_1 + 1))) else (none)))) else (none)) else (none)) else (none))) else (none)) = some r := by first | (rw [hy326]; with_reducible exact H) | (have H2_ := (Option.bind_some _ _).symm.trans H; rw [hy326]; with_reducible exact H2_) | (have H2_ := (Option.bind_some _ _).symm.trans H; with_reducible exact H2_) | with_reducible exact H | (rw [hy326]; exact H) | exact H
           have Ny326 := Aside0.mk hy326
           clear hy326
           by_cases c38 : ([] : List (S54)).length + y326.length < 4398046511104
           ·rw [if_pos c38] at H
            have LMc38 := Aside0.mk c38
            clear c38
            obtain ⟨y330, hy330⟩ : ∃ y_ : List (S54), y_ = (([] : List (S54)) ++ y326) := ⟨_, rfl⟩
            replace H : (if 0 ≤ x4_1 then (if x4_1 < (l0.length : Int) then (if y330.length < 4398046511104 then ((some (y330 ++ [(⟨(rd_T54 l0 x4_1).f0, (rd_T54 l0 x4_1).f1⟩ : S54)] : List (S54))).bind fun y334 => ((some (x3_1.drop (x5_2 : Int).toNat : List (S54))).bind fun y337 => (if y334.length + y337.length < 4398046511104 then (archivistref06_Of.l0 k2 l0 (y334 ++ y337) (wrap64 (x4_1 + 1))) else (none)))) else (none)) else (none)) else (none)) = some r := by first | (rw [hy330]; with_reducible exact H) | (have H2_ := (Option.bind_some _ _).symm.trans H; rw [hy330]; with_reducible exact H2_) | (have H2_ := (Option.bind_some _ _).symm.trans H; with_reducible exact H2_) | with_reducible exact H | (rw [hy330]; exact H) | exact H
            have Ny330 := Aside0.mk hy330
            clear hy330
            by_cases c39 : 0 ≤ x4_1
            ·rw [if_pos c39] at H
             have c39b0 := decide_eq_true c39
             clear c39
             by_cases c40 : x4_1 < (l0.length : Int)
             ·rw [if_pos c40] at H
              have c40b0 := decide_eq_true c40
              clear c40
              by_cases c41 : y330.length < 4398046511104
              ·rw [if_pos c41] at H
               have LMc41 := Aside0.mk c41
               clear c41
               obtain ⟨y334, hy334⟩ : ∃ y_ : List (S54), y_ = (y330 ++ [(⟨(rd_T54 l0 x4_1).f0, (rd_T54 l0 x4_1).f1⟩ : S54)]) := ⟨_, rfl⟩
               replace H : ((some (x3_1.drop (x5_2 : Int).toNat : List (S54))).bind fun y337 => (if y334.length + y337.length < 4398046511104 then (archivistref06_Of.l0 k2 l0 (y334 ++ y337) (wrap64 (x4_1 + 1))) else (none))) = some r := by first | (rw [hy334]; with_reducible exact H) | (have H2_ := (Option.bind_some _ _).symm.trans H; rw [hy334]; with_reducible exact H2_) | (have H2_ := (Option.bind_some _ _).symm.trans H; with_reducible exact H2_) | with_reducible exact H | (rw [hy334]; exact H) | exact H
               have Ny334 := Aside0.mk hy334
               clear hy334
               have c42b0 := eq_true (od : 0 ≤ x5_2)
               have c43b0 := eq_true (od : x5_2 ≤ (x3_1.length : Int))
               obtain ⟨y337, hy337⟩ : ∃ y_ : List (S54), y_ = (x3_1.drop (x5_2 : Int).toNat) := ⟨_, rfl⟩
               replace H : (if y334.length + y337.length < 4398046511104 then (archivistref06_Of.l0 k2 l0 (y334 ++ y337) (wrap64 (x4_1 + 1))) else (none)) = some r := by first | (rw [hy337]; with_reducible exact H) | (have H2_ := (Option.bind_some _ _).symm.trans H; rw [hy337]; with_reducible exact H2_) | (have H2_ := (Option.bind_some _ _).symm.trans H; with_reducible exact H2_) | with_reducible exact H | (rw [hy337]; exact H) | exact H
               have Ny337 := Aside0.mk hy337
               clear hy337
               by_cases c44 : y334.length + y337.length < 4398046511104
               ·rw [if_pos c44] at H
                have LMc44 := Aside0.mk c44
                clear c44
                obtain ⟨y341, hy341⟩ : ∃ y_ : List (S54), y_ = (y334 ++ y337) := ⟨_, rfl⟩
                replace H : (archivistref06_Of.l0 k2 l0 y341 (wrap64 (x4_1 + 1))) = some r := by first | (rw [hy341]; with_reducible exact H) | (have H2_ := (Option.bind_some _ _).symm.trans H; rw [hy341]; with_reducible exact H2_) | (have H2_ := (Option.bind_some _ _).symm.trans H; with_reducible exact H2_) | with_reducible exact H | (rw [hy341]; exact H) | exact H
                have Ny341 := Aside0.mk hy341
                clear hy341
                have H' := Aside0.mk H
                clear H
                obtain ⟨Ao45, co45, eo45⟩ := Kd.R_slice HO_3.out
                subst eo45
                have q46 : (x5_2 : Int) ≤ ((x3_1.length : Int) : Int) := od
                obtain ⟨i046, hi046, _, hsz46, _⟩ := info_parts info54
                have hroom46 : x3_1.length ≤ co45 := (Kd.R_reads' HO_3.out).2.1
                have hC46 : Kd.C k54 _ Ao45 x3_1.length x3_1 := (Kd.R_reads' HO_3.out).2.2
                have hcut46 := cut_to (P := Try.prog) 30 54 .i64 Try.underlying30 hi046 Ao45 x3_1.length co45 x5_2 (od) q46 hroom46
                have hr46 := Kd.C_take (m := (x5_2 : Int).toNat) hC46 (by omega)
                have hy46 : y326.length = (x5_2 : Int).toNat := (by rw [Ny326.out, List.length_take]; omega)
                rw [← Ny326.out] at hr46
                rw [← hy46] at hcut46
                have HR329 := Aside0.mk hr46
                have HC329 := Aside0.mk (show y326.length ≤ co45 from by omega)
                clear hr46 hC46 hroom46 hi046 hsz46
                have KY46 := Aside0.mk hy46
                clear hy46
                have KL46 := Aside0.mk (show (x5_2 : Int).toNat ≤ x3_1.length from by omega)
                replace q46 := eq_true q46
                go_wp2_with (first | ((with_reducible refine gate_builtin (b := .append) (xs := #[.tmp 39, .tmp 42]) rfl ?_); at_builtin; refine Kd.R_append_rows k54 (w0 := w) w.heap.size rfl (.tmp 39) (.tmp 42) 30 54 (.agg #[(.string ⟨#[]⟩), (.string ⟨#[]⟩)]) 32 rfl Try.underlying30 info54 rfl (by decide) (by omega) (.slice none 0 0) ([] : List (S54)) y326 _ _ _ (fun k_ => some k_ ≠ (.slice Ao45 x3_1.length co45 : Value).ownBlock) (fun _ => False) rfl rfl ?aO ?aR (fun _ _ h => h) (fun _ h => h.elim) ?aF ?aB ?aS ?aL ?_; (case aR => repeat (first | exact (by repeat (first | (with_reducible exact HR329.out) | (with_reducible refine Kd.C_alloc ?_ _) | (with_reducible refine Kd.C_drewN ?_ _) | (with_reducible refine Kd.C_drew ?_) | exact HR329.out)) | (with_reducible refine Kd.C_alloc ?_ _) | (with_reducible refine Kd.C_drewN ?_ _) | (with_reducible refine Kd.C_drew ?_))); (case aB => exact bl); (case aF => exact (fun k_ hk => Kd.fresh' (Kd.R_lt (rz HO_3.out)) k_ hk)); (case aO => exact ((Kd.R_nil _ _ _ _ (fun k_ => some k_ ≠ (.slice Ao45 x3_1.length co45 : Value).ownBlock)))); (case aS => exact (below_size bl)); (case aL => have := LMc38.out; omega); intro v331 w47 ho hb hg hat; rw [← Ny330.out] at ho; have n0_ := Aside0.mk (Kd.R_after (Kd.R_apart_nil (rz HO_3.out)) hg hat); have n1_ := Aside0.mk (hb); have n2_ := Aside0.mk ((show Kd.C k54 w47 Ao45 y326.length y326 from by rw [Ny326.out]; exact Kd.C_take (m := (x5_2 : Int).toNat) ((Kd.R_reads' (Kd.R_after (Kd.R_apart_nil (rz HO_3.out)) hg hat)).2.2) KL46.out)); have n3_ := Aside0.mk (ho); clear HO_3; clear HB; clear HR329; have HO_3 := n0_; have HB := n1_; have HR329 := n2_; have HO332 := n3_; clear n0_ n1_ n2_ n3_; clear ho hb hg hat; have p333 : 0 ≤ (x4_1 : Int) := od; have q333 : x4_1 < (l0.length : Int) := od; obtain ⟨ad333, e333, hx333_0, hx333_1⟩ := at_T54 HR0.out x4_1 p333 q333; obtain rfl : ad295 = ad333 := (by injection e333); replace hx333_0 := cu HB.out hx333_0; replace hx333_1 := cu HB.out hx333_1; replace p333 := eq_true p333; replace q333 := eq_true q333) | ((with_reducible refine gate_builtin (b := .append) (xs := #[.tmp 44, .tmp 49]) rfl ?_); at_builtin; refine Kd.R_append k54 (w0 := w) w.heap.size rfl (.tmp 44) (.tmp 49) 30 54 (.agg #[(.string ⟨#[]⟩), (.string ⟨#[]⟩)]) 32 rfl Try.underlying30 info54 rfl (by decide) (by omega) v331 y330 (⟨(rd_T54 l0 x4_1).f0, (rd_T54 l0 x4_1).f1⟩ : S54) [.string ((rd_T54 l0 x4_1).f0), .string ((rd_T54 l0 x4_1).f1)] (fun k_ => some k_ ≠ (.slice Ao45 x3_1.length co45 : Value).ownBlock) (fun _ => False) rfl rfl ?aP (fun _ hk => hk.elim) ?aF ?aO ?aB ?aS ?aL ?_; (case aP => exact k54_mkM _ _ _ (⟨(rd_T54 l0 x4_1).f0, (rd_T54 l0 x4_1).f1⟩ : S54)); (case aB => exact bl); (case aF => exact (fun k_ hk => Kd.fresh' (Kd.R_lt (rz HO_3.out)) k_ hk)); (case aO => exact (rz HO332.out)); (case aS => exact (below_size bl)); (case aL => have := LMc41.out; omega); intro v335 w48 ho hb hg hat; rw [← Ny334.out] at ho; have n0_ := Aside0.mk (Kd.R_after (ok := (fun _ => True)) (rz HO_3.out) hg hat); have n1_ := Aside0.mk (hb); have n2_ := Aside0.mk ((show Kd.C k54 w48 Ao45 y326.length y326 from by rw [Ny326.out]; exact Kd.C_take (m := (x5_2 : Int).toNat) ((Kd.R_reads' (Kd.R_after (ok := (fun _ => True)) (rz HO_3.out) hg hat)).2.2) KL46.out)); have n3_ := Aside0.mk (ho); clear HO_3; clear HB; clear HR329; clear HO332; have HO_3 := n0_; have HB := n1_; have HR329 := n2_; have HO336 := n3_; clear n0_ n1_ n2_ n3_; clear ho hb hg hat; have q49 : (x5_2 : Int) ≤ ((x3_1.length : Int) : Int) := od; obtain ⟨i049, hi049, _, hsz49, _⟩ := info_parts info54; have hroom49 : x3_1.length ≤ co45 := (Kd.R_reads' HO_3.out).2.1; have hC49 : Kd.C k54 _ Ao45 x3_1.length x3_1 := (Kd.R_reads' HO_3.out).2.2; have q049 : (0 : Int) ≤ (x5_2 : Int) := od; have hcut49 := cut_from (P := Try.prog) 30 54 .i64 Try.underlying30 hi049 2 hsz49 Ao45 x3_1.length co45 x5_2 q049 q49; have hr49 := Kd.C_drop (m := (x5_2 : Int).toNat) (c := co45) hC49 (by omega) hroom49; obtain ⟨A49, hA49⟩ : ∃ A1, A1 = (if co45 = (x5_2 : Int).toNat then Ao45 else (Ao45 : Option Addr).map (·.add ((x5_2 : Int).toNat * 2))) := ⟨_, rfl⟩; obtain ⟨c49, hc49⟩ : ∃ c1, c1 = co45 - (x5_2 : Int).toNat := ⟨_, rfl⟩; have hy49 : y337.length = x3_1.length - (x5_2 : Int).toNat := (by rw [Ny337.out, List.length_drop] <;> omega); rw [show (x3_1).drop (x5_2 : Int).toNat = y337 from Ny337.out.symm] at hr49; replace hr49 : Kd.C k54 _ A49 y337.length y337 := (by rw [hA49]; exact hr49); rw [← hy49, ← hA49, ← hc49] at hcut49; have HR340 := Aside0.mk hr49; have HC340 := Aside0.mk (show y337.length ≤ c49 from by rw [hy49, hc49]; exact Nat.sub_le_sub_right hroom49 _); clear hr49 hC49 hroom49 hi049 hsz49 hc49; have KY49 := Aside0.mk hy49; have KA49 := Aside0.mk hA49; clear hy49 hA49; have KL49 := Aside0.mk (show (x5_2 : Int).toNat ≤ x3_1.length from by omega); replace q49 := eq_true q49) | ((with_reducible refine gate_builtin (b := .append) (xs := #[.tmp 70, .tmp 73]) rfl ?_); at_builtin; refine Kd.R_append_rows k54 (w0 := w) w.heap.size rfl (.tmp 70) (.tmp 73) 30 54 (.agg #[(.string ⟨#[]⟩), (.string ⟨#[]⟩)]) 32 rfl Try.underlying30 info54 rfl (by decide) (by omega) v335 y334 y337 _ _ _ (fun k_ => some k_ ≠ (.slice Ao45 x3_1.length co45 : Value).ownBlock) (fun _ => False) rfl rfl ?aO ?aR (fun _ _ h => h) (fun _ h => h.elim) ?aF ?aB ?aS ?aL ?_; (case aR => repeat (first | exact (by repeat (first | (with_reducible exact HR340.out) | (with_reducible refine Kd.C_alloc ?_ _) | (with_reducible refine Kd.C_drewN ?_ _) | (with_reducible refine Kd.C_drew ?_) | exact HR340.out)) | (with_reducible refine Kd.C_alloc ?_ _) | (with_reducible refine Kd.C_drewN ?_ _) | (with_reducible refine Kd.C_drew ?_))); (case aB => exact bl); (case aF => exact (fun k_ hk => Kd.fresh' (Kd.R_lt (rz HO_3.out)) k_ hk)); (case aO => exact (rz HO336.out)); (case aS => exact (below_size bl)); (case aL => have := LMc44.out; omega); intro v342 w50 ho hb hg hat; rw [← Ny341.out] at ho; have n0_ := Aside0.mk (Kd.R_after (ok := (fun _ => True)) (rz HO_3.out) hg hat); have n1_ := Aside0.mk (hb); have n2_ := Aside0.mk ((show Kd.C k54 w50 Ao45 y326.length y326 from by rw [Ny326.out]; exact Kd.C_take (m := (x5_2 : Int).toNat) ((Kd.R_reads' (Kd.R_after (ok := (fun _ => True)) (rz HO_3.out) hg hat)).2.2) KL46.out)); have n3_ := Aside0.mk ((show Kd.C k54 w50 A49 y337.length y337 from by rw [Ny337.out, KA49.out]; exact Kd.C_drop (m := (x5_2 : Int).toNat) (c := co45) ((Kd.R_reads' (Kd.R_after (ok := (fun _ => True)) (rz HO_3.out) hg hat)).2.2) KL49.out ((Kd.R_reads' (Kd.R_after (ok := (fun _ => True)) (rz HO_3.out) hg hat)).2.1))); have n4_ := Aside0.mk (ho); clear HO_3; clear HB; clear HR329; clear HR340; clear HO336; have HO_3 := n0_; have HB := n1_; have HR329 := n2_; have HR340 := n3_; have HO343 := n4_; clear n0_ n1_ n2_ n3_ n4_; clear ho hb hg hat))
                repeat (go_quiet (first | ((with_reducible refine gate_builtin (b := .append) (xs := #[.tmp 39, .tmp 42]) rfl ?_); at_builtin; refine Kd.R_append_rows k54 (w0 := w) w.heap.size rfl (.tmp 39) (.tmp 42) 30 54 (.agg #[(.string ⟨#[]⟩), (.string ⟨#[]⟩)]) 32 rfl Try.underlying30 info54 rfl (by decide) (by omega) (.slice none 0 0) ([] : List (S54)) y326 _ _ _ (fun k_ => some k_ ≠ (.slice Ao45 x3_1.length co45 : Value).ownBlock) (fun _ => False) rfl rfl ?aO ?aR (fun _ _ h => h) (fun _ h => h.elim) ?aF ?aB ?aS ?aL ?_; (case aR => repeat (first | exact (by repeat (first | (with_reducible exact HR329.out) | (with_reducible refine Kd.C_alloc ?_ _) | (with_reducible refine Kd.C_drewN ?_ _) | (with_reducible refine Kd.C_drew ?_) | exact HR329.out)) | (with_reducible refine Kd.C_alloc ?_ _) | (with_reducible refine Kd.C_drewN ?_ _) | (with_reducible refine Kd.C_drew ?_))); (case aB => exact bl); (case aF => exact (fun k_ hk => Kd.fresh' (Kd.R_lt (rz HO_3.out)) k_ hk)); (case aO => exact ((Kd.R_nil _ _ _ _ (fun k_ => some k_ ≠ (.slice Ao45 x3_1.length co45 : Value).ownBlock)))); (case aS => exact (below_size bl)); (case aL => have := LMc38.out; omega); intro v331 w47 ho hb hg hat; rw [← Ny330.out] at ho; have n0_ := Aside0.mk (Kd.R_after (Kd.R_apart_nil (rz HO_3.out)) hg hat); have n1_ := Aside0.mk (hb); have n2_ := Aside0.mk ((show Kd.C k54 w47 Ao45 y326.length y326 from by rw [Ny326.out]; exact Kd.C_take (m := (x5_2 : Int).toNat) ((Kd.R_reads' (Kd.R_after (Kd.R_apart_nil (rz HO_3.out)) hg hat)).2.2) KL46.out)); have n3_ := Aside0.mk (ho); clear HO_3; clear HB; clear HR329; have HO_3 := n0_; have HB := n1_; have HR329 := n2_; have HO332 := n3_; clear n0_ n1_ n2_ n3_; clear ho hb hg hat; have p333 : 0 ≤ (x4_1 : Int) := od; have q333 : x4_1 < (l0.length : Int) := od; obtain ⟨ad333, e333, hx333_0, hx333_1⟩ := at_T54 HR0.out x4_1 p333 q333; obtain rfl : ad295 = ad333 := (by injection e333); replace hx333_0 := cu HB.out hx333_0; replace hx333_1 := cu HB.out hx333_1; replace p333 := eq_true p333; replace q333 := eq_true q333) | ((with_reducible refine gate_builtin (b := .append) (xs := #[.tmp 44, .tmp 49]) rfl ?_); at_builtin; refine Kd.R_append k54 (w0 := w) w.heap.size rfl (.tmp 44) (.tmp 49) 30 54 (.agg #[(.string ⟨#[]⟩), (.string ⟨#[]⟩)]) 32 rfl Try.underlying30 info54 rfl (by decide) (by omega) v331 y330 (⟨(rd_T54 l0 x4_1).f0, (rd_T54 l0 x4_1).f1⟩ : S54) [.string ((rd_T54 l0 x4_1).f0), .string ((rd_T54 l0 x4_1).f1)] (fun k_ => some k_ ≠ (.slice Ao45 x3_1.length co45 : Value).ownBlock) (fun _ => False) rfl rfl ?aP (fun _ hk => hk.elim) ?aF ?aO ?aB ?aS ?aL ?_; (case aP => exact k54_mkM _ _ _ (⟨(rd_T54 l0 x4_1).f0, (rd_T54 l0 x4_1).f1⟩ : S54)); (case aB => exact bl); (case aF => exact (fun k_ hk => Kd.fresh' (Kd.R_lt (rz HO_3.out)) k_ hk)); (case aO => exact (rz HO332.out)); (case aS => exact (below_size bl)); (case aL => have := LMc41.out; omega); intro v335 w48 ho hb hg hat; rw [← Ny334.out] at ho; have n0_ := Aside0.mk (Kd.R_after (ok := (fun _ => True)) (rz HO_3.out) hg hat); have n1_ := Aside0.mk (hb); have n2_ := Aside0.mk ((show Kd.C k54 w48 Ao45 y326.length y326 from by rw [Ny326.out]; exact Kd.C_take (m := (x5_2 : Int).toNat) ((Kd.R_reads' (Kd.R_after (ok := (fun _ => True)) (rz HO_3.out) hg hat)).2.2) KL46.out)); have n3_ := Aside0.mk (ho); clear HO_3; clear HB; clear HR329; clear HO332; have HO_3 := n0_; have HB := n1_; have HR329 := n2_; have HO336 := n3_; clear n0_ n1_ n2_ n3_; clear ho hb hg hat; have q49 : (x5_2 : Int) ≤ ((x3_1.length : Int) : Int) := od; obtain ⟨i049, hi049, _, hsz49, _⟩ := info_parts info54; have hroom49 : x3_1.length ≤ co45 := (Kd.R_reads' HO_3.out).2.1; have hC49 : Kd.C k54 _ Ao45 x3_1.length x3_1 := (Kd.R_reads' HO_3.out).2.2; have q049 : (0 : Int) ≤ (x5_2 : Int) := od; have hcut49 := cut_from (P := Try.prog) 30 54 .i64 Try.underlying30 hi049 2 hsz49 Ao45 x3_1.length co45 x5_2 q049 q49; have hr49 := Kd.C_drop (m := (x5_2 : Int).toNat) (c := co45) hC49 (by omega) hroom49; obtain ⟨A49, hA49⟩ : ∃ A1, A1 = (if co45 = (x5_2 : Int).toNat then Ao45 else (Ao45 : Option Addr).map (·.add ((x5_2 : Int).toNat * 2))) := ⟨_, rfl⟩; obtain ⟨c49, hc49⟩ : ∃ c1, c1 = co45 - (x5_2 : Int).toNat := ⟨_, rfl⟩; have hy49 : y337.length = x3_1.length - (x5_2 : Int).toNat := (by rw [Ny337.out, List.length_drop] <;> omega); rw [show (x3_1).drop (x5_2 : Int).toNat = y337 from Ny337.out.symm] at hr49; replace hr49 : Kd.C k54 _ A49 y337.length y337 := (by rw [hA49]; exact hr49); rw [← hy49, ← hA49, ← hc49] at hcut49; have HR340 := Aside0.mk hr49; have HC340 := Aside0.mk (show y337.length ≤ c49 from by rw [hy49, hc49]; exact Nat.sub_le_sub_right hroom49 _); clear hr49 hC49 hroom49 hi049 hsz49 hc49; have KY49 := Aside0.mk hy49; have KA49 := Aside0.mk hA49; clear hy49 hA49; have KL49 := Aside0.mk (show (x5_2 : Int).toNat ≤ x3_1.length from by omega); replace q49 := eq_true q49) | ((with_reducible refine gate_builtin (b := .append) (xs := #[.tmp 70, .tmp 73]) rfl ?_); at_builtin; refine Kd.R_append_rows k54 (w0 := w) w.heap.size rfl (.tmp 70) (.tmp 73) 30 54 (.agg #[(.string ⟨#[]⟩), (.string ⟨#[]⟩)]) 32 rfl Try.underlying30 info54 rfl (by decide) (by omega) v335 y334 y337 _ _ _ (fun k_ => some k_ ≠ (.slice Ao45 x3_1.length co45 : Value).ownBlock) (fun _ => False) rfl rfl ?aO ?aR (fun _ _ h => h) (fun _ h => h.elim) ?aF ?aB ?aS ?aL ?_; (case aR => repeat (first | exact (by repeat (first | (with_reducible exact HR340.out) | (with_reducible refine Kd.C_alloc ?_ _) | (with_reducible refine Kd.C_drewN ?_ _) | (with_reducible refine Kd.C_drew ?_) | exact HR340.out)) | (with_reducible refine Kd.C_alloc ?_ _) | (with_reducible refine Kd.C_drewN ?_ _) | (with_reducible refine Kd.C_drew ?_))); (case aB => exact bl); (case aF => exact (fun k_ hk => Kd.fresh' (Kd.R_lt (rz HO_3.out)) k_ hk)); (case aO => exact (rz HO336.out)); (case aS => exact (below_size bl)); (case aL => have := LMc44.out; omega); intro v342 w50 ho hb hg hat; rw [← Ny341.out] at ho; have n0_ := Aside0.mk (Kd.R_after (ok := (fun _ => True)) (rz HO_3.out) hg hat); have n1_ := Aside0.mk (hb); have n2_ := Aside0.mk ((show Kd.C k54 w50 Ao45 y326.length y326 from by rw [Ny326.out]; exact Kd.C_take (m := (x5_2 : Int).toNat) ((Kd.R_reads' (Kd.R_after (ok := (fun _ => True)) (rz HO_3.out) hg hat)).2.2) KL46.out)); have n3_ := Aside0.mk ((show Kd.C k54 w50 A49 y337.length y337 from by rw [Ny337.out, KA49.out]; exact Kd.C_drop (m := (x5_2 : Int).toNat) (c := co45) ((Kd.R_reads' (Kd.R_after (ok := (fun _ => True)) (rz HO_3.out) hg hat)).2.2) KL49.out ((Kd.R_reads' (Kd.R_after (ok := (fun _ => True)) (rz HO_3.out) hg hat)).2.1))); have n4_ := Aside0.mk (ho); clear HO_3; clear HB; clear HR329; clear HR340; clear HO336; have HO_3 := n0_; have HB := n1_; have HR329 := n2_; have HR340 := n3_; have HO343 := n4_; clear n0_ n1_ n2_ n3_ n4_; clear ho hb hg hat)); try go_wp2_with (first | ((with_reducible refine gate_builtin (b := .append) (xs := #[.tmp 39, .tmp 42]) rfl ?_); at_builtin; refine Kd.R_append_rows k54 (w0 := w) w.heap.size rfl (.tmp 39) (.tmp 42) 30 54 (.agg #[(.string ⟨#[]⟩), (.string ⟨#[]⟩)]) 32 rfl Try.underlying30 info54 rfl (by decide) (by omega) (.slice none 0 0) ([] : List (S54)) y326 _ _ _ (fun k_ => some k_ ≠ (.slice Ao45 x3_1.length co45 : Value).ownBlock) (fun _ => False) rfl rfl ?aO ?aR (fun _ _ h => h) (fun _ h => h.elim) ?aF ?aB ?aS ?aL ?_; (case aR => repeat (first | exact (by repeat (first | (with_reducible exact HR329.out) | (with_reducible refine Kd.C_alloc ?_ _) | (with_reducible refine Kd.C_drewN ?_ _) | (with_reducible refine Kd.C_drew ?_) | exact HR329.out)) | (with_reducible refine Kd.C_alloc ?_ _) | (with_reducible refine Kd.C_drewN ?_ _) | (with_reducible refine Kd.C_drew ?_))); (case aB => exact bl); (case aF => exact (fun k_ hk => Kd.fresh' (Kd.R_lt (rz HO_3.out)) k_ hk)); (case aO => exact ((Kd.R_nil _ _ _ _ (fun k_ => some k_ ≠ (.slice Ao45 x3_1.length co45 : Value).ownBlock)))); (case aS => exact (below_size bl)); (case aL => have := LMc38.out; omega); intro v331 w47 ho hb hg hat; rw [← Ny330.out] at ho; have n0_ := Aside0.mk (Kd.R_after (Kd.R_apart_nil (rz HO_3.out)) hg hat); have n1_ := Aside0.mk (hb); have n2_ := Aside0.mk ((show Kd.C k54 w47 Ao45 y326.length y326 from by rw [Ny326.out]; exact Kd.C_take (m := (x5_2 : Int).toNat) ((Kd.R_reads' (Kd.R_after (Kd.R_apart_nil (rz HO_3.out)) hg hat)).2.2) KL46.out)); have n3_ := Aside0.mk (ho); clear HO_3; clear HB; clear HR329; have HO_3 := n0_; have HB := n1_; have HR329 := n2_; have HO332 := n3_; clear n0_ n1_ n2_ n3_; clear ho hb hg hat; have p333 : 0 ≤ (x4_1 : Int) := od; have q333 : x4_1 < (l0.length : Int) := od; obtain ⟨ad333, e333, hx333_0, hx333_1⟩ := at_T54 HR0.out x4_1 p333 q333; obtain rfl : ad295 = ad333 := (by injection e333); replace hx333_0 := cu HB.out hx333_0; replace hx333_1 := cu HB.out hx333_1; replace p333 := eq_true p333; replace q333 := eq_true q333) | ((with_reducible refine gate_builtin (b := .append) (xs := #[.tmp 44, .tmp 49]) rfl ?_); at_builtin; refine Kd.R_append k54 (w0 := w) w.heap.size rfl (.tmp 44) (.tmp 49) 30 54 (.agg #[(.string ⟨#[]⟩), (.string ⟨#[]⟩)]) 32 rfl Try.underlying30 info54 rfl (by decide) (by omega) v331 y330 (⟨(rd_T54 l0 x4_1).f0, (rd_T54 l0 x4_1).f1⟩ : S54) [.string ((rd_T54 l0 x4_1).f0), .string ((rd_T54 l0 x4_1).f1)] (fun k_ => some k_ ≠ (.slice Ao45 x3_1.length co45 : Value).ownBlock) (fun _ => False) rfl rfl ?aP (fun _ hk => hk.elim) ?aF ?aO ?aB ?aS ?aL ?_; (case aP => exact k54_mkM _ _ _ (⟨(rd_T54 l0 x4_1).f0, (rd_T54 l0 x4_1).f1⟩ : S54)); (case aB => exact bl); (case aF => exact (fun k_ hk => Kd.fresh' (Kd.R_lt (rz HO_3.out)) k_ hk)); (case aO => exact (rz HO332.out)); (case aS => exact (below_size bl)); (case aL => have := LMc41.out; omega); intro v335 w48 ho hb hg hat; rw [← Ny334.out] at ho; have n0_ := Aside0.mk (Kd.R_after (ok := (fun _ => True)) (rz HO_3.out) hg hat); have n1_ := Aside0.mk (hb); have n2_ := Aside0.mk ((show Kd.C k54 w48 Ao45 y326.length y326 from by rw [Ny326.out]; exact Kd.C_take (m := (x5_2 : Int).toNat) ((Kd.R_reads' (Kd.R_after (ok := (fun _ => True)) (rz HO_3.out) hg hat)).2.2) KL46.out)); have n3_ := Aside0.mk (ho); clear HO_3; clear HB; clear HR329; clear HO332; have HO_3 := n0_; have HB := n1_; have HR329 := n2_; have HO336 := n3_; clear n0_ n1_ n2_ n3_; clear ho hb hg hat; have q49 : (x5_2 : Int) ≤ ((x3_1.length : Int) : Int) := od; obtain ⟨i049, hi049, _, hsz49, _⟩ := info_parts info54; have hroom49 : x3_1.length ≤ co45 := (Kd.R_reads' HO_3.out).2.1; have hC49 : Kd.C k54 _ Ao45 x3_1.length x3_1 := (Kd.R_reads' HO_3.out).2.2; have q049 : (0 : Int) ≤ (x5_2 : Int) := od; have hcut49 := cut_from (P := Try.prog) 30 54 .i64 Try.underlying30 hi049 2 hsz49 Ao45 x3_1.length co45 x5_2 q049 q49; have hr49 := Kd.C_drop (m := (x5_2 : Int).toNat) (c := co45) hC49 (by omega) hroom49; obtain ⟨A49, hA49⟩ : ∃ A1, A1 = (if co45 = (x5_2 : Int).toNat then Ao45 else (Ao45 : Option Addr).map (·.add ((x5_2 : Int).toNat * 2))) := ⟨_, rfl⟩; obtain ⟨c49, hc49⟩ : ∃ c1, c1 = co45 - (x5_2 : Int).toNat := ⟨_, rfl⟩; have hy49 : y337.length = x3_1.length - (x5_2 : Int).toNat := (by rw [Ny337.out, List.length_drop] <;> omega); rw [show (x3_1).drop (x5_2 : Int).toNat = y337 from Ny337.out.symm] at hr49; replace hr49 : Kd.C k54 _ A49 y337.length y337 := (by rw [hA49]; exact hr49); rw [← hy49, ← hA49, ← hc49] at hcut49; have HR340 := Aside0.mk hr49; have HC340 := Aside0.mk (show y337.length ≤ c49 from by rw [hy49, hc49]; exact Nat.sub_le_sub_right hroom49 _); clear hr49 hC49 hroom49 hi049 hsz49 hc49; have KY49 := Aside0.mk hy49; have KA49 := Aside0.mk hA49; clear hy49 hA49; have KL49 := Aside0.mk (show (x5_2 : Int).toNat ≤ x3_1.length from by omega); replace q49 := eq_true q49) | ((with_reducible refine gate_builtin (b := .append) (xs := #[.tmp 70, .tmp 73]) rfl ?_); at_builtin; refine Kd.R_append_rows k54 (w0 := w) w.heap.size rfl (.tmp 70) (.tmp 73) 30 54 (.agg #[(.string ⟨#[]⟩), (.string ⟨#[]⟩)]) 32 rfl Try.underlying30 info54 rfl (by decide) (by omega) v335 y334 y337 _ _ _ (fun k_ => some k_ ≠ (.slice Ao45 x3_1.length co45 : Value).ownBlock) (fun _ => False) rfl rfl ?aO ?aR (fun _ _ h => h) (fun _ h => h.elim) ?aF ?aB ?aS ?aL ?_; (case aR => repeat (first | exact (by repeat (first | (with_reducible exact HR340.out) | (with_reducible refine Kd.C_alloc ?_ _) | (with_reducible refine Kd.C_drewN ?_ _) | (with_reducible refine Kd.C_drew ?_) | exact HR340.out)) | (with_reducible refine Kd.C_alloc ?_ _) | (with_reducible refine Kd.C_drewN ?_ _) | (with_reducible refine Kd.C_drew ?_))); (case aB => exact bl); (case aF => exact (fun k_ hk => Kd.fresh' (Kd.R_lt (rz HO_3.out)) k_ hk)); (case aO => exact (rz HO336.out)); (case aS => exact (below_size bl)); (case aL => have := LMc44.out; omega); intro v342 w50 ho hb hg hat; rw [← Ny341.out] at ho; have n0_ := Aside0.mk (Kd.R_after (ok := (fun _ => True)) (rz HO_3.out) hg hat); have n1_ := Aside0.mk (hb); have n2_ := Aside0.mk ((show Kd.C k54 w50 Ao45 y326.length y326 from by rw [Ny326.out]; exact Kd.C_take (m := (x5_2 : Int).toNat) ((Kd.R_reads' (Kd.R_after (ok := (fun _ => True)) (rz HO_3.out) hg hat)).2.2) KL46.out)); have n3_ := Aside0.mk ((show Kd.C k54 w50 A49 y337.length y337 from by rw [Ny337.out, KA49.out]; exact Kd.C_drop (m := (x5_2 : Int).toNat) (c := co45) ((Kd.R_reads' (Kd.R_after (ok := (fun _ => True)) (rz HO_3.out) hg hat)).2.2) KL49.out ((Kd.R_reads' (Kd.R_after (ok := (fun _ => True)) (rz HO_3.out) hg hat)).2.1))); have n4_ := Aside0.mk (ho); clear HO_3; clear HB; clear HR329; clear HR340; clear HO336; have HO_3 := n0_; have HB := n1_; have HR329 := n2_; have HR340 := n3_; have HO343 := n4_; clear n0_ n1_ n2_ n3_ n4_; clear ho hb hg hat)))
                go_roundg k2
                case measure => have := HK1.out; have := HK2.out; omega
                case rel => exact ⟨(y341), (wrap64 (x4_1 + 1)), rs, H', ⟨by have := HK1.out; have := HK2.out; omega⟩, ⟨by (with_reducible repeat (first | apply Kd.R_alloc | apply Kd.R_drewN | apply Kd.R_drew)); exact Kd.R_mono HO343.out (fun _ hk => trivial)⟩, ⟨bl⟩⟩
               ·rw [if_neg c44] at H
                exact absurd H (by simp)
              ·rw [if_neg c41] at H
               exact absurd H (by simp)
             ·rw [if_neg c40] at H
              exact absurd H (by simp)
            ·rw [if_neg c39] at H
             exact absurd H (by simp)
           ·rw [if_neg c38] at H
            exact absurd H (by simp)
          ·rw [if_neg c37] at H
           exact absurd H (by simp)
         ·rw [if_neg c36] at H
          exact absurd H (by simp)
     ·replace c5 := Bool.eq_false_iff.mpr c5
      subst c5
      have H1 : (archivistref06_Of.l0 k1 l0 x3_1 (wrap64 (x4_1 + 1))) = some r := by rw [if_neg (show ¬ (false = true) by decide)] at H; exact H
      clear H
      have H := H1
      clear H1
      have H' := Aside0.mk H
      clear H
      have p295 : 0 ≤ (x4_1 : Int) := od
      have q295 : x4_1 < (l0.length : Int) := od
      obtain ⟨ad295, e295, hx295_0, hx295_1⟩ := at_T54 HR0.out x4_1 p295 q295
      cases e295
      replace hx295_0 := cu HB.out hx295_0
      replace hx295_1 := cu HB.out hx295_1
      replace p295 := eq_true p295
      replace q295 := eq_true q295
      go_wp2_with (first | (go_at_call 28; (with_reducible refine (archivistref06_Name.calls k1 ((rd_T54 l0 x4_1).f0) false _ A4.out).mono ?_); rintro e w' ⟨rfl, ⟨nd, rfl⟩⟩; (try exact dw)))
      repeat (go_quiet (first | (go_at_call 28; (with_reducible refine (archivistref06_Name.calls k1 ((rd_T54 l0 x4_1).f0) false _ A4.out).mono ?_); rintro e w' ⟨rfl, ⟨nd, rfl⟩⟩; (try exact dw))); try go_wp2_with (first | (go_at_call 28; (with_reducible refine (archivistref06_Name.calls k1 ((rd_T54 l0 x4_1).f0) false _ A4.out).mono ?_); rintro e w' ⟨rfl, ⟨nd, rfl⟩⟩; (try exact dw))))
      go_roundg k1
      case measure => have := HK1.out; omega
      case rel => exact ⟨(x3_1), (wrap64 (x4_1 + 1)), rs, H', ⟨by have := HK1.out; omega⟩, ⟨rz HO_3.out⟩, ⟨bl⟩⟩
    ·rw [if_neg c3] at H
     exact absurd H (by simp)
   ·rw [if_neg c2] at H
    have c2b0 : decide (x4_1 < (l0.length : Int)) = false := decide_eq_false c2
    clear c2
    obtain rfl := Option.some.inj H
    go_wp2
    repeat (go_quiet (fail); try go_wp2)
    go_ret
    exact ⟨_, by first | rfl | (simp [errW_none, errW_some] <;> rfl) | (simp [*, errW_none, errW_some] <;> rfl), by (with_reducible repeat (first | apply Kd.R_alloc | apply Kd.R_drewN | apply Kd.R_drew)); exact HO_3.out, bl⟩

/-! ### archivistref10_Of: function 15 -/
def archivistref10_Of.l0 : Nat → List (S54) → List (S54) → Int → Option ((List (S54)))
 | 0, _, _, _ => none
 | k + 1, x3, x4, x5 => if x5 ≥ 0 then (if 0 ≤ x5 then (if x5 < (x3.length : Int) then (if x4.length < 4398046511104 then (archivistref10_Of.l0 k x3 (x4 ++ [(⟨(rd_T54 x3 x5).f0, (rd_T54 x3 x5).f1⟩ : S54)]) (wrap64 (x5 - 1))) else (none)) else (none)) else (none)) else ((archivistref06_Of.f k x4).bind fun t351 => (if 0 ≤ (mn (t351.length : Int) 16) then (if (mn (t351.length : Int) 16) ≤ (t351.length : Int) then (some (t351.take ((mn (t351.length : Int) 16) : Int).toNat)) else (none)) else (none)))
def archivistref10_Of.f (k : Nat) (a0 : ByteArray) : Option ((List (S54))) := (archivistref10_All.f k a0).bind fun t344 => (archivistref10_Of.l0 k t344 ([] : List (S54)) (wrap64 ((t344.length : Int) - 1)))
theorem archivistref10_Of.mono_l : ∀ k, (∀ y0 y1 y2, LeO (archivistref10_Of.l0 k y0 y1 y2) (archivistref10_Of.l0 (k + 1) y0 y1 y2))
 | 0 => fun _ _ _ r h => by simp [archivistref10_Of.l0] at h
 | k + 1 => by
  have ih0 := archivistref10_Of.mono_l k
  ·intro y0 y1 y2
   unfold archivistref10_Of.l0
   repeat' first
   | (with_reducible exact ih0 _ _ _)
   | (with_reducible exact archivistref06_Of.mono _ _)
   | (with_reducible exact archivistref10_All.mono _ _)
   | (with_reducible exact LeO.refl _)
   | (with_reducible exact LeO.none _)
   | (with_reducible refine LeO.ite ?_ ?_)
   | (with_reducible refine LeO.bind ?_ (fun _ => ?_))
   | exact ih0 _ _ _
   | exact archivistref06_Of.mono _ _
   | exact archivistref10_All.mono _ _
   | exact LeO.none _
   | refine LeO.ite ?_ ?_
   | refine LeO.bind ?_ (fun _ => ?_)
theorem archivistref10_Of.mono : ∀ a0 k, LeO (archivistref10_Of.f k a0) (archivistref10_Of.f (k + 1) a0) := by
 intro a0 k
 have ih0 := archivistref10_Of.mono_l k
 unfold archivistref10_Of.f
 repeat' first
   | (with_reducible exact ih0 _ _ _)
   | (with_reducible exact archivistref06_Of.mono _ _)
   | (with_reducible exact archivistref10_All.mono _ _)
   | (with_reducible exact LeO.refl _)
   | (with_reducible exact LeO.none _)
   | (with_reducible refine LeO.ite ?_ ?_)
   | (with_reducible refine LeO.bind ?_ (fun _ => ?_))
   | exact ih0 _ _ _
   | exact archivistref06_Of.mono _ _
   | exact archivistref10_All.mono _ _
   | exact LeO.none _
   | refine LeO.ite ?_ ?_
   | refine LeO.bind ?_ (fun _ => ?_)
set_option maxHeartbeats 8000000 in
set_option maxRecDepth 100000 in
theorem archivistref10_Of.calls (k : Nat) (a0 : ByteArray) (r : List (S54)) (w : World) (h : archivistref10_Of.f k a0 = some r) :
  Calls Try.prog 15 #[.string a0] w fun e w' => ∃ v0_ : Value, e = .returned (v0_) ∧ Kd.R k54 54 w' w.heap.size (fun _ => True) v0_ r ∧ Below w.heap.size w w' := by
 have hu54 := Try.underlying54
 have HB := Aside0.mk (Below.refl w.heap.size w)
 have H : ((archivistref10_All.f k a0).bind fun t344 => (archivistref10_Of.l0 k t344 ([] : List (S54)) (wrap64 ((t344.length : Int) - 1)))) = some r := h
 clear h
 replace H := Option.bind_eq_some_iff.mp H
 obtain ⟨t344, A20, H⟩ := H
 replace H : (archivistref10_Of.l0 k t344 ([] : List (S54)) (wrap64 ((t344.length : Int) - 1))) = some r := H
 have A2 := Aside0.mk A20
 clear A20
 have H' := Aside0.mk H
 clear H
 go_enter Try.func15, Try.ntmps15
 go_wp2_with (first | ((with_reducible refine gate_callee (f := 13) rfl ?_); refine goesL_ (some 8) rfl rfl Try.func13 (by kernel_rfl) rfl #[.string a0] rfl ml ?_; (with_reducible refine (archivistref10_All.calls k a0 t344 _ A2.out).mono ?_); rintro e w3 ⟨v345, rfl, ho0, hb⟩; refine ⟨_, rfl, ?_⟩; have n0_ := Aside0.mk (Kd.R_lower ho0 (below_size bl)); have n1_ := Aside0.mk (below_step bl hb); clear HB; have HO346 := n0_; have HB := n1_; clear n0_ n1_; (try clear hb); (try clear hb2); (try clear hk); (try clear hi); (try clear ho0); obtain ⟨Ao4, co4, eo4⟩ := Kd.R_slice HO346.out; subst eo4))
 go_loopg [4, 5] k (fun kq v4 v5 w' => ∃ (x4_1 : List (S54)) (x5_1 : Int), v5 = .int .i64 x5_1 ∧ Aside0 (archivistref10_Of.l0 kq t344 x4_1 x5_1 = some r) ∧ Aside0 (kq ≤ k) ∧ Aside0 (Kd.R k54 54 w' w.heap.size (fun k_ => some k_ ≠ (v4 : Value).ownBlock) (.slice Ao4 t344.length co4) t344) ∧ Aside0 (Kd.R k54 54 w' w.heap.size (fun k_ => some k_ ≠ ((.slice Ao4 t344.length co4) : Value).ownBlock) v4 x4_1) ∧ Aside0 (Below w.heap.size w w'))
 case atStart => exact ⟨(([] : List (S54))), (wrap64 ((t344.length : Int) - 1)), rs, H', ⟨Nat.le_refl _⟩, ⟨by (with_reducible repeat (first | apply Kd.R_alloc | apply Kd.R_drewN | apply Kd.R_drew)); exact Kd.R_mono HO346.out (fun _ hk => (by simp [Value.ownBlock]))⟩, ⟨by first | exact Kd.R_nil _ _ _ _ _ | exact Kd.N_nil _ _ _ _ _ | exact Kd.V_nil _ _ _ _ _ | exact Kd.Q_nil _ _ _ _ _ | exact Kd.S_nil _ _ _ _ _⟩, ⟨bl⟩⟩
 case round =>
  clear H'
  try clear c1
  try clear p2
  obtain ⟨x4_1, x5_1, rfl, HA, HK1, HO_3, HO_4, HB⟩ := hrel
  cases gk with
  | zero => exact absurd HA.out (by simp [archivistref10_Of.l0])
  | succ k1 =>
   have H := HA.out
   clear HA
   simp only [archivistref10_Of.l0] at H
   by_cases c5 : x5_1 ≥ 0
   ·rw [if_pos c5] at H
    have c5b0 := decide_eq_true c5
    clear c5
    by_cases c6 : 0 ≤ x5_1
    ·rw [if_pos c6] at H
     have c6b0 := decide_eq_true c6
     clear c6
     by_cases c7 : x5_1 < (t344.length : Int)
     ·rw [if_pos c7] at H
      have c7b0 := decide_eq_true c7
      clear c7
      by_cases c8 : x4_1.length < 4398046511104
      ·rw [if_pos c8] at H
       have LMc8 := Aside0.mk c8
       clear c8
       obtain ⟨y348, hy348⟩ : ∃ y_ : List (S54), y_ = (x4_1 ++ [(⟨(rd_T54 t344 x5_1).f0, (rd_T54 t344 x5_1).f1⟩ : S54)]) := ⟨_, rfl⟩
       replace H : (archivistref10_Of.l0 k1 t344 y348 (wrap64 (x5_1 - 1))) = some r := by first | (rw [hy348]; with_reducible exact H) | (have H2_ := (Option.bind_some _ _).symm.trans H; rw [hy348]; with_reducible exact H2_) | (have H2_ := (Option.bind_some _ _).symm.trans H; with_reducible exact H2_) | with_reducible exact H | (rw [hy348]; exact H) | exact H
       have Ny348 := Aside0.mk hy348
       clear hy348
       have H' := Aside0.mk H
       clear H
       have p347 : 0 ≤ (x5_1 : Int) := od
       have q347 : x5_1 < (t344.length : Int) := od
       obtain ⟨ad347, e347, hx347_0, hx347_1⟩ := at_T54 (Kd.R_reads' HO_3.out).2.2 x5_1 p347 q347
       cases e347
       replace p347 := eq_true p347
       replace q347 := eq_true q347
       go_wp2_with (first | ((with_reducible refine gate_builtin (b := .append) (xs := #[.tmp 16, .tmp 21]) rfl ?_); at_builtin; refine Kd.R_append k54 (w0 := w) w.heap.size rfl (.tmp 16) (.tmp 21) 30 54 (.agg #[(.string ⟨#[]⟩), (.string ⟨#[]⟩)]) 32 rfl Try.underlying30 info54 rfl (by decide) (by omega) u4 x4_1 (⟨(rd_T54 t344 x5_1).f0, (rd_T54 t344 x5_1).f1⟩ : S54) [.string ((rd_T54 t344 x5_1).f0), .string ((rd_T54 t344 x5_1).f1)] (fun k_ => some k_ ≠ (.slice (some ad347) t344.length co4 : Value).ownBlock) (fun _ => False) rfl rfl ?aP (fun _ hk => hk.elim) ?aF ?aO ?aB ?aS ?aL ?_; (case aP => exact k54_mkM _ _ _ (⟨(rd_T54 t344 x5_1).f0, (rd_T54 t344 x5_1).f1⟩ : S54)); (case aB => exact bl); (case aF => exact (fun k_ hk => Kd.fresh' (Kd.R_lt (rz HO_3.out)) k_ hk)); (case aO => exact (rz HO_4.out)); (case aS => exact (below_size bl)); (case aL => have := LMc8.out; omega); intro v349 w9 ho hb hg hat; rw [← Ny348.out] at ho; have n0_ := Aside0.mk (Kd.R_after (ok := (fun _ => True)) (by (with_reducible repeat (first | apply Kd.R_alloc | apply Kd.R_drewN | apply Kd.R_drew)); exact Kd.R_mono HO_3.out (fun _ hk => ⟨trivial, hk⟩)) hg hat); have n1_ := Aside0.mk (hb); have n2_ := Aside0.mk (ho); clear HO_3; clear HB; clear HO_4; have HO_3 := n0_; have HB := n1_; have HO350 := n2_; clear n0_ n1_ n2_; clear ho hb hg hat))
       go_roundg k1
       case measure => have := HK1.out; omega
       case rel => exact ⟨(y348), (wrap64 (x5_1 - 1)), rs, H', ⟨by have := HK1.out; omega⟩, ⟨by (with_reducible repeat (first | apply Kd.R_alloc | apply Kd.R_drewN | apply Kd.R_drew)); exact Kd.R_mono HO_3.out (fun _ hk => hk.2)⟩, ⟨rz HO350.out⟩, ⟨bl⟩⟩
      ·rw [if_neg c8] at H
       exact absurd H (by simp)
     ·rw [if_neg c7] at H
      exact absurd H (by simp)
    ·rw [if_neg c6] at H
     exact absurd H (by simp)
   ·rw [if_neg c5] at H
    have c5b0 : decide (0 ≤ x5_1) = false := decide_eq_false c5
    clear c5
    replace H := Option.bind_eq_some_iff.mp H
    obtain ⟨t351, A100, H⟩ := H
    replace H : (if 0 ≤ (mn (t351.length : Int) 16) then (if (mn (t351.length : Int) 16) ≤ (t351.length : Int) then (some (t351.take ((mn (t351.length : Int) 16) : Int).toNat)) else (none)) else (none)) = some r := H
    have A10 := Aside0.mk A100
    clear A100
    obtain ⟨ji11, hji11⟩ : ∃ j_ : Int, (mn (t351.length : Int) 16) = j_ := ⟨_, rfl⟩
    replace H : (if 0 ≤ (ji11) then (if (ji11) ≤ (t351.length : Int) then (some (t351.take ((ji11) : Int).toNat)) else (none)) else (none)) = some r := by first | (rw [hji11] at H; exact H) | (simp only [hji11] at H ⊢; exact H)
    (try rw [hji11] at A10)
    (try (have hji11h : ji11 ≤ 16 := by (rw [← hji11]; unfold mn; (repeat' split) <;> omega)))
    (try (have hji11g : ji11 ≤ 64 := by omega))
    (try (have hji11l : 0 ≤ ji11 := by (rw [← hji11]; unfold mn; (repeat' split) <;> omega)))
    (try (have hji11m : 0 ≤ ji11 := by omega))
    have hji11_ : (if 16 < (t351.length : Int) then 16 else (t351.length : Int)) = ji11 := hji11
    obtain ⟨lt11t351, hlt11t351⟩ : ∃ q_, (t351.take ((ji11) : Int).toNat) = q_ := ⟨_, rfl⟩
    replace H : (if 0 ≤ (ji11) then (if (ji11) ≤ (t351.length : Int) then (some lt11t351) else (none)) else (none)) = some r := by first | (rw [hlt11t351] at H; exact H) | (simp only [hlt11t351] at H ⊢; exact H)
    by_cases c12 : 0 ≤ (ji11)
    ·rw [if_pos c12] at H
     have c12b0 := eq_true c12
     have c12b1 : decide (0 ≤ (ji11)) = true := decide_eq_true c12
     clear c12
     by_cases c13 : (ji11) ≤ (t351.length : Int)
     ·rw [if_pos c13] at H
      have c13b0 := eq_true c13
      have c13b1 : decide ((ji11) ≤ (t351.length : Int)) = true := decide_eq_true c13
      clear c13
      obtain ⟨y354, hy354⟩ : ∃ y_ : List (S54), y_ = lt11t351 := ⟨_, rfl⟩
      replace H : (some y354) = some r := by first | (rw [hy354]; with_reducible exact H) | (have H2_ := (Option.bind_some _ _).symm.trans H; rw [hy354]; with_reducible exact H2_) | (have H2_ := (Option.bind_some _ _).symm.trans H; with_reducible exact H2_) | with_reducible exact H | (rw [hy354]; exact H) | exact H
      have Ny354 := Aside0.mk hy354
      clear hy354
      obtain rfl := Option.some.inj H
      obtain ⟨Ao14, co14, eo14⟩ := Kd.R_slice HO_4.out
      subst eo14
      go_wp2_with (first | ((with_reducible refine gate_callee (f := 30) rfl ?_); refine goesL_ (some 24) rfl rfl Try.func30 (by kernel_rfl) rfl #[.slice Ao14 x4_1.length co14] rfl ml ?_; (with_reducible refine (archivistref06_Of.calls k1 _ _ x4_1 t351 _ ?side1 ?side2 A10.out).mono ?_); (case side1 => exact cz (Kd.R_reads' HO_4.out).2.2); (case side2 => exact (Kd.R_reads' HO_4.out).2.1); rintro e w15 ⟨v352, rfl, ho0, hb⟩; refine ⟨_, rfl, ?_⟩; have n0_ := Aside0.mk (Kd.R_elder' (rz HO_3.out) (Kd.R_base ho0) hb); have n1_ := Aside0.mk (Kd.R_elder' (rz HO_4.out) (Kd.R_base ho0) hb); have n2_ := Aside0.mk (Kd.R_lower (Kd.R_new' (Kd.R_new' ho0 (Kd.R_lt (rz HO_3.out))) (Kd.R_lt (rz HO_4.out))) (below_size bl)); have n3_ := Aside0.mk (below_step bl hb); clear HO_3; clear HO_4; clear HB; have HO_3 := n0_; have HO_4 := n1_; have HO353 := n2_; have HB := n3_; clear n0_ n1_ n2_ n3_; (try clear hb); (try clear hb2); (try clear hk); (try clear hi); (try clear ho0); obtain ⟨Ao16, co16, eo16⟩ := Kd.R_slice HO353.out; subst eo16; have q17 : ((ji11) : Int) ≤ ((t351.length : Int) : Int) := od; obtain ⟨i017, hi017, _, hsz17, _⟩ := info_parts info54; have hcut17 := cut_to (P := Try.prog) 30 54 .i64 Try.underlying30 hi017 Ao16 t351.length co16 (ji11) (od) q17 (Kd.R_reads' HO353.out).2.1; have hr17 := Kd.R_take (m := ((ji11) : Int).toNat) HO353.out (by omega); have hy17 : y354.length = ((ji11) : Int).toNat := (by rw [Ny354.out, ← hlt11t351, List.length_take]; omega); rw [hlt11t351, ← Ny354.out] at hr17; rw [← hy17] at hr17 hcut17; clear hy17 hi017 hsz17 HO353; have HO356 := Aside0.mk hr17; clear hr17; replace q17 := eq_true q17))
      go_ret
      exact ⟨_, by first | rfl | (simp [errW_none, errW_some] <;> rfl) | (simp only [← hji11]; first | rfl | (simp [errW_none, errW_some] <;> rfl)) | (simp [*, errW_none, errW_some] <;> rfl), by (with_reducible repeat (first | apply Kd.R_alloc | apply Kd.R_drewN | apply Kd.R_drew)); exact Kd.R_mono HO356.out (fun _ hk => trivial), bl⟩
     ·rw [if_neg c13] at H
      exact absurd H (by simp)
    ·rw [if_neg c12] at H
     exact absurd H (by simp)

end Go.Proofs.Ytielpefbgdilaaa.X
