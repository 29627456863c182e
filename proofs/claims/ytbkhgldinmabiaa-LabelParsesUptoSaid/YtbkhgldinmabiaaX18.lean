-- Laid by xprint.py, a program of this session's, out of the translation.
import Derived.Test.YtbkhgldinmabiaaX0
import Derived.Test.YtbkhgldinmabiaaX17
namespace Go.Proofs.Ytbkhgldinmabiaa.X
open Go.RowKit Go.Proofs.YtbkhgldinmabiaaW.PrintWords Go.Proofs.YtbkhgldinmabiaaW.PrintLast Go.Proofs.YtbkhgldinmabiaaW.PrintMore
attribute [local go_sem] max2_int min2_int max_two min_two max_three min_three max_four min_four x_isSome x_str_gtr x_str_leq x_str_geq   -- for this text's walks alone
set_option linter.unusedVariables false
set_option linter.unusedSimpArgs false

/-! ### archivistref06_Of: function 22 -/
mutual
def archivistref06_Of.l0 : Nat → List (S38) → List (S38) → Int → Option ((List (S38)))
 | 0, _, _, _ => none
 | k + 1, x0, x3, x4 => if x4 < (x0.length : Int) then (if 0 ≤ x4 then ((archivistref06_Name.f k ((rd_T38 x0 x4).f0)).bind fun t319 => (if t319 = true then (archivistref06_Of.l1 k x0 x3 x4 0) else (archivistref06_Of.l0 k x0 x3 (wrap64 (x4 + 1))))) else (none)) else (some x3)
def archivistref06_Of.l1 : Nat → List (S38) → List (S38) → Int → Int → Option ((List (S38)))
 | 0, _, _, _, _ => none
 | k + 1, x0, x3, x4, x5 => if x5 < (x3.length : Int) then (if 0 ≤ x5 then (if 0 ≤ x4 then (if x4 < (x0.length : Int) then (if (Op.bytesLess (((rd_T38 x3 x5).f0).toList) (((rd_T38 x0 x4).f0).toList)) = true then (archivistref06_Of.l1 k x0 x3 x4 (wrap64 (x5 + 1))) else (if x5 ≤ (x3.length : Int) then ((some (x3.take (x5 : Int).toNat : List (S38))).bind fun y322 => (if ([] : List (S38)).length + y322.length < 4398046511104 then ((some (([] : List (S38)) ++ y322 : List (S38))).bind fun y326 => (if y326.length < 4398046511104 then ((some (y326 ++ [(⟨(rd_T38 x0 x4).f0, (rd_T38 x0 x4).f1⟩ : S38)] : List (S38))).bind fun y330 => (if ((rd_T38 x3 x5).f0).toList = ((rd_T38 x0 x4).f0).toList then (if 0 ≤ (wrap64 (x5 + 1)) then (if (wrap64 (x5 + 1)) ≤ (x3.length : Int) then ((some (x3.drop ((wrap64 (x5 + 1)) : Int).toNat : List (S38))).bind fun y335 => (if y330.length + y335.length < 4398046511104 then (archivistref06_Of.l0 k x0 (y330 ++ y335) (wrap64 (x4 + 1))) else (none))) else (none)) else (none)) else ((some (x3.drop (x5 : Int).toNat : List (S38))).bind fun y342 => (if y330.length + y342.length < 4398046511104 then (archivistref06_Of.l0 k x0 (y330 ++ y342) (wrap64 (x4 + 1))) else (none))))) else (none))) else (none))) else (none))) else (none)) else (none)) else (none)) else (if 0 ≤ x5 then (if x5 ≤ (x3.length : Int) then ((some (x3.take (x5 : Int).toNat : List (S38))).bind fun y349 => (if ([] : List (S38)).length + y349.length < 4398046511104 then ((some (([] : List (S38)) ++ y349 : List (S38))).bind fun y353 => (if 0 ≤ x4 then (if x4 < (x0.length : Int) then (if y353.length < 4398046511104 then ((some (y353 ++ [(⟨(rd_T38 x0 x4).f0, (rd_T38 x0 x4).f1⟩ : S38)] : List (S38))).bind fun y357 => ((some (x3.drop (x5 : Int).toNat : List (S38))).bind fun y360 => (if y357.length + y360.length < 4398046511104 then (archivistref06_Of.l0 k x0 (y357 ++ y360) (wrap64 (x4 + 1))) else (none)))) else (none)) else (none)) else (none))) else (none))) else (none)) else (none))
end
def archivistref06_Of.f (k : Nat) (l0 : List (S38)) : Option ((List (S38))) := archivistref06_Of.l0 k l0 ([] : List (S38)) 0
theorem archivistref06_Of.mono_l : ∀ k, (∀ y0 y1 y2, LeO (archivistref06_Of.l0 k y0 y1 y2) (archivistref06_Of.l0 (k + 1) y0 y1 y2)) ∧ (∀ y0 y1 y2 y3, LeO (archivistref06_Of.l1 k y0 y1 y2 y3) (archivistref06_Of.l1 (k + 1) y0 y1 y2 y3))
 | 0 => ⟨fun _ _ _ r h => by simp [archivistref06_Of.l0] at h, fun _ _ _ _ r h => by simp [archivistref06_Of.l1] at h⟩
 | k + 1 => by
  obtain ⟨ih0, ih1⟩ := archivistref06_Of.mono_l k
  refine ⟨?_, ?_⟩
  ·intro y0 y1 y2
   unfold archivistref06_Of.l0
   repeat' first
   | (with_reducible exact ih0 _ _ _)
   | (with_reducible exact ih1 _ _ _ _)
   | (with_reducible exact archivistref06_Name.mono _ _)
   | (with_reducible exact LeO.refl _)
   | (with_reducible exact LeO.none _)
   | (with_reducible refine LeO.ite ?_ ?_)
   | (with_reducible refine LeO.bind ?_ (fun _ => ?_))
   | exact ih0 _ _ _
   | exact ih1 _ _ _ _
   | exact archivistref06_Name.mono _ _
   | exact LeO.none _
   | refine LeO.ite ?_ ?_
   | refine LeO.bind ?_ (fun _ => ?_)
  ·intro y0 y1 y2 y3
   unfold archivistref06_Of.l1
   repeat' first
   | (with_reducible exact ih0 _ _ _)
   | (with_reducible exact ih1 _ _ _ _)
   | (with_reducible exact archivistref06_Name.mono _ _)
   | (with_reducible exact LeO.refl _)
   | (with_reducible exact LeO.none _)
   | (with_reducible refine LeO.ite ?_ ?_)
   | (with_reducible refine LeO.bind ?_ (fun _ => ?_))
   | exact ih0 _ _ _
   | exact ih1 _ _ _ _
   | exact archivistref06_Name.mono _ _
   | exact LeO.none _
   | refine LeO.ite ?_ ?_
   | refine LeO.bind ?_ (fun _ => ?_)
theorem archivistref06_Of.mono : ∀ a0 k, LeO (archivistref06_Of.f k a0) (archivistref06_Of.f (k + 1) a0) := by
 intro a0 k
 obtain ⟨ih0, ih1⟩ := archivistref06_Of.mono_l k
 unfold archivistref06_Of.f
 repeat' first
   | (with_reducible exact ih0 _ _ _)
   | (with_reducible exact ih1 _ _ _ _)
   | (with_reducible exact archivistref06_Name.mono _ _)
   | (with_reducible exact LeO.refl _)
   | (with_reducible exact LeO.none _)
   | (with_reducible refine LeO.ite ?_ ?_)
   | (with_reducible refine LeO.bind ?_ (fun _ => ?_))
   | exact ih0 _ _ _
   | exact ih1 _ _ _ _
   | exact archivistref06_Name.mono _ _
   | exact LeO.none _
   | refine LeO.ite ?_ ?_
   | refine LeO.bind ?_ (fun _ => ?_)
set_option maxHeartbeats 8000000 in
set_option maxRecDepth 100000 in
theorem archivistref06_Of.calls (k : Nat) (A0 : Option Addr) (c0 : Nat) (l0 : List (S38)) (r : List (S38)) (w : World) (hr0 : Kd.C k38 w A0 l0.length l0) (hc0 : l0.length ≤ c0) (h : archivistref06_Of.f k l0 = some r) :
  Calls Try.prog 22 #[.slice A0 l0.length c0] w fun e w' => ∃ v0_ : Value, e = .returned (v0_) ∧ Kd.R k38 38 w' w.heap.size (fun _ => True) v0_ r ∧ Below w.heap.size w w' := by
 have hu38 := Try.underlying38
 have HR0 := Aside0.mk hr0
 have HC0 := Aside0.mk hc0
 clear hr0 hc0
 have HB := Aside0.mk (Below.refl w.heap.size w)
 have H : (archivistref06_Of.l0 k l0 ([] : List (S38)) 0) = some r := h
 clear h
 have H' := Aside0.mk H
 clear H
 go_enter Try.func22, Try.ntmps22
 go_wp2
 repeat (go_quiet (fail); try go_wp2)
 go_loopg [3, 4] k (fun kq v3 v4 w' => ∃ (x3_1 : List (S38)) (x4_1 : Int), v4 = .int .i64 x4_1 ∧ Aside0 (archivistref06_Of.l0 kq l0 x3_1 x4_1 = some r) ∧ Aside0 (kq ≤ k) ∧ Aside0 (Kd.R k38 38 w' w.heap.size (fun _ => True) v3 x3_1) ∧ Aside0 (Below w.heap.size w w'))
 case atStart => exact ⟨(([] : List (S38))), (0), rs, H', ⟨Nat.le_refl _⟩, ⟨by first | exact Kd.R_nil _ _ _ _ _ | exact Kd.N_nil _ _ _ _ _ | exact Kd.V_nil _ _ _ _ _ | exact Kd.Q_nil _ _ _ _ _ | exact Kd.S_nil _ _ _ _ _⟩, ⟨bl⟩⟩
 case round =>
  clear H'
  obtain ⟨x3_1, x4_1, rfl, HA, HK1, HO_3, HB⟩ := hrel
  cases gk with
  | zero => exact absurd HA.out (by simp [archivistref06_Of.l0])
  | succ k1 =>
   have H := HA.out
   clear HA
   simp only [archivistref06_Of.l0] at H
   by_cases c2 : x4_1 < (l0.length : Int)
   ·rw [if_pos c2] at H
    have c2b0 := decide_eq_true c2
    clear c2
    by_cases c3 : 0 ≤ x4_1
    ·rw [if_pos c3] at H
     have c3b0 := decide_eq_true c3
     clear c3
     replace H := Option.bind_eq_some_iff.mp H
     obtain ⟨t319, A40, H⟩ := H
     replace H : (if t319 = true then (archivistref06_Of.l1 k1 l0 x3_1 x4_1 0) else (archivistref06_Of.l0 k1 l0 x3_1 (wrap64 (x4_1 + 1)))) = some r := H
     have A4 := Aside0.mk A40
     clear A40
     by_cases c5 : t319 = true
     ·subst c5
      have H1 : (archivistref06_Of.l1 k1 l0 x3_1 x4_1 0) = some r := by rw [if_pos rfl] at H; exact H
      clear H
      have H := H1
      clear H1
      have H' := Aside0.mk H
      clear H
      have p318 : 0 ≤ (x4_1 : Int) := od
      have q318 : x4_1 < (l0.length : Int) := od
      obtain ⟨ad318, e318, hx318_0, hx318_1⟩ := at_T38 HR0.out x4_1 p318 q318
      cases e318
      replace hx318_0 := cu HB.out hx318_0
      replace hx318_1 := cu HB.out hx318_1
      replace p318 := eq_true p318
      replace q318 := eq_true q318
      go_wp2_with (first | (go_at_call 26; (with_reducible refine (archivistref06_Name.calls _ _ _ _ A4.out).mono ?_); rintro e w' ⟨rfl, ⟨nd, rfl⟩⟩; (try exact dw)))
      repeat (go_quiet (first | (go_at_call 26; (with_reducible refine (archivistref06_Name.calls _ _ _ _ A4.out).mono ?_); rintro e w' ⟨rfl, ⟨nd, rfl⟩⟩; (try exact dw))); try go_wp2_with (first | (go_at_call 26; (with_reducible refine (archivistref06_Name.calls _ _ _ _ A4.out).mono ?_); rintro e w' ⟨rfl, ⟨nd, rfl⟩⟩; (try exact dw))))
      go_loopg [5] k1 (fun kq v5 w' => ∃ (x5_2 : Int), v5 = .int .i64 x5_2 ∧ Aside0 (archivistref06_Of.l1 kq l0 x3_1 x4_1 x5_2 = some r) ∧ Aside0 (kq ≤ k1) ∧ Aside0 (Kd.R k38 38 w' w.heap.size (fun _ => True) u3 x3_1) ∧ Aside0 (Below w.heap.size w w'))
      case atStart => exact ⟨(0), rs, H', ⟨Nat.le_refl _⟩, ⟨rz HO_3.out⟩, ⟨bl⟩⟩
      case round =>
       clear H'
       try clear c2
       try clear c2b0
       try clear p2
       try clear c3
       try clear c3b0
       try clear p3
       try clear q3
       try clear hx3
       try clear c5
       try clear hx318_0
       try clear hx318_1
       try clear p318
       try clear q318
       obtain ⟨x5_2, rfl, HA, HK2, HO_3, HB⟩ := hrel
       cases gk with
       | zero => exact absurd HA.out (by simp [archivistref06_Of.l1])
       | succ k2 =>
        have H := HA.out
        clear HA
        simp only [archivistref06_Of.l1] at H
        by_cases c6 : x5_2 < (x3_1.length : Int)
        ·rw [if_pos c6] at H
         have c6b0 := decide_eq_true c6
         clear c6
         by_cases c7 : 0 ≤ x5_2
         ·rw [if_pos c7] at H
          have c7b0 := decide_eq_true c7
          clear c7
          by_cases c8 : 0 ≤ x4_1
          ·rw [if_pos c8] at H
           have c8b0 := decide_eq_true c8
           clear c8
           by_cases c9 : x4_1 < (l0.length : Int)
           ·rw [if_pos c9] at H
            have c9b0 := decide_eq_true c9
            clear c9
            by_cases c10 : (Op.bytesLess (((rd_T38 x3_1 x5_2).f0).toList) (((rd_T38 l0 x4_1).f0).toList)) = true
            ·rw [if_pos c10] at H
             have c10b0 := c10
             clear c10
             have H' := Aside0.mk H
             clear H
             obtain ⟨Ao11, co11, eo11⟩ := Kd.R_slice HO_3.out
             subst eo11
             have p320 : 0 ≤ (x5_2 : Int) := od
             have q320 : x5_2 < (x3_1.length : Int) := od
             obtain ⟨ad320, e320, hx320_0, hx320_1⟩ := at_T38 (Kd.R_reads' HO_3.out).2.2 x5_2 p320 q320
             cases e320
             replace p320 := eq_true p320
             replace q320 := eq_true q320
             have p321 : 0 ≤ (x4_1 : Int) := od
             have q321 : x4_1 < (l0.length : Int) := od
             obtain ⟨ad321, e321, hx321_0, hx321_1⟩ := at_T38 HR0.out x4_1 p321 q321
             obtain rfl : ad318 = ad321 := (by injection e321)
             replace hx321_0 := cu HB.out hx321_0
             replace hx321_1 := cu HB.out hx321_1
             replace p321 := eq_true p321
             replace q321 := eq_true q321
             go_wp2
             repeat (go_quiet (fail); try go_wp2)
             go_roundg k2
             case measure => have := HK1.out; have := HK2.out; omega
             case rel => exact ⟨(wrap64 (x5_2 + 1)), rs, H', ⟨by have := HK1.out; have := HK2.out; omega⟩, ⟨rz HO_3.out⟩, ⟨bl⟩⟩
            ·rw [if_neg c10] at H
             have c10b0 : (Op.bytesLess (((rd_T38 x3_1 x5_2).f0).toList) (((rd_T38 l0 x4_1).f0).toList)) = false := by simpa using c10
             clear c10
             have c12b0 := eq_true (od : 0 ≤ x5_2)
             by_cases c13 : x5_2 ≤ (x3_1.length : Int)
             ·rw [if_pos c13] at H
              have c13b0 := eq_true c13
              have c13b1 : decide (x5_2 ≤ (x3_1.length : Int)) = true := decide_eq_true c13
              clear c13
              obtain ⟨y322, hy322⟩ : ∃ y_ : List (S38), y_ = (x3_1.take (x5_2 : Int).toNat) := ⟨_, rfl⟩
              replace H : (if ([] : List (S38)).length + y322.length < 4398046511104 then ((some (([] : List (S38)) ++ y322 : List (S38))).bind fun y326 => (if y326.length < 4398046511104 then ((some (y326 ++ [(⟨(rd_T38 l0 x4_1).f0, (rd_T38 l0 x4_1).f1⟩ : S38)] : List (S38))).bind fun y330 => (if ((rd_T38 x3_1 x5_2).f0).toList = ((rd_T38 l0 x4_1).f0).toList then (if 0 ≤ (wrap64 (x5_2 + 1)) then (if (wrap64 (x5_2 + 1)) ≤ (x3_1.length : Int) then ((some (x3_1.drop ((wrap64 (x5_2 + 1)) : Int).toNat : List (S38))).bind fun y335 => (if y330.length + y335.length < 4398046511104 then (archivistref06_Of.l0 k2 l0 (y330 ++ y335) (wrap64 (x4_1 + 1))) else (none))) else (none)) else (none)) else ((some (x3_1.drop (x5_2 : Int).toNat : List (S38))).bind fun y342 => (if y330.length + y342.length < 4398046511104 then (archivistref06_Of.l0 k2 l0 (y330 ++ y342) (wrap64 (x4_1 + 1))) else (none))))) else (none))) else (none)) = some r := by first | (rw [hy322]; with_reducible exact H) | (have H2_ := (Option.bind_some _ _).symm.trans H; rw [hy322]; with_reducible exact H2_) | (have H2_ := (Option.bind_some _ _).symm.trans H; with_reducible exact H2_) | with_reducible exact H | (rw [hy322]; exact H) | exact H
              have Ny322 := Aside0.mk hy322
              clear hy322
              by_cases c14 : ([] : List (S38)).length + y322.length < 4398046511104
              ·rw [if_pos c14] at H
               have LMc14 := Aside0.mk c14
               clear c14
               obtain ⟨y326, hy326⟩ : ∃ y_ : List (S38), y_ = (([] : List (S38)) ++ y322) := ⟨_, rfl⟩
               replace H : (if y326.length < 4398046511104 then ((some (y326 ++ [(⟨(rd_T38 l0 x4_1).f0, (rd_T38 l0 x4_1).f1⟩ : S38)] : List (S38))).bind fun y330 => (if ((rd_T38 x3_1 x5_2).f0).toList = ((rd_T38 l0 x4_1).f0).toList then (if 0 ≤ (wrap64 (x5_2 + 1)) then (if (wrap64 (x5_2 + 1)) ≤ (x3_1.length : Int) then ((some (x3_1.drop ((wrap64 (x5_2 + 1)) : Int).toNat : List (S38))).bind fun y335 => (if y330.length + y335.length < 4398046511104 then (archivistref06_Of.l0 k2 l0 (y330 ++ y335) (wrap64 (x4_1 + 1))) else (none))) else (none)) else (none)) else ((some (x3_1.drop (x5_2 : Int).toNat : List (S38))).bind fun y342 => (if y330.length + y342.length < 4398046511104 then (archivistref06_Of.l0 k2 l0 (y330 ++ y342) (wrap64 (x4_1 + 1))) else (none))))) else (none)) = some r := by first | (rw [hy326]; with_reducible exact H) | (have H2_ := (Option.bind_some _ _).symm.trans H; rw [hy326]; with_reducible exact H2_) | (have H2_ := (Option.bind_some _ _).symm.trans H; with_reducible exact H2_) | with_reducible exact H | (rw [hy326]; exact H) | exact H
               have Ny326 := Aside0.mk hy326
               clear hy326
               by_cases c15 : y326.length < 4398046511104
               ·rw [if_pos c15] at H
                have LMc15 := Aside0.mk c15
                clear c15
                obtain ⟨y330, hy330⟩ : ∃ y_ : List (S38), y_ = (y326 ++ [(⟨(rd_T38 l0 x4_1).f0, (rd_T38 l0 x4_1).f1⟩ : S38)]) := ⟨_, rfl⟩
                replace H : (if ((rd_T38 x3_1 x5_2).f0).toList = ((rd_T38 l0 x4_1).f0).toList then (if 0 ≤ (wrap64 (x5_2 + 1)) then (if (wrap64 (x5_2 + 1)) ≤ (x3_1.length : Int) then ((some (x3_1.drop ((wrap64 (x5_2 + 1)) : Int).toNat : List (S38))).bind fun y335 => (if y330.length + y335.length < 4398046511104 then (archivistref06_Of.l0 k2 l0 (y330 ++ y335) (wrap64 (x4_1 + 1))) else (none))) else (none)) else (none)) else ((some (x3_1.drop (x5_2 : Int).toNat : List (S38))).bind fun y342 => (if y330.length + y342.length < 4398046511104 then (archivistref06_Of.l0 k2 l0 (y330 ++ y342) (wrap64 (x4_1 + 1))) else (none)))) = some r := by first | (rw [hy330]; with_reducible exact H) | (have H2_ := (Option.bind_some _ _).symm.trans H; rw [hy330]; with_reducible exact H2_) | (have H2_ := (Option.bind_some _ _).symm.trans H; with_reducible exact H2_) | with_reducible exact H | (rw [hy330]; exact H) | exact H
                have Ny330 := Aside0.mk hy330
                clear hy330
                by_cases c16 : ((rd_T38 x3_1 x5_2).f0).toList = ((rd_T38 l0 x4_1).f0).toList
                ·rw [if_pos c16] at H
                 have c16b0 : (((rd_T38 x3_1 x5_2).f0).toList == ((rd_T38 l0 x4_1).f0).toList) = true := beq_iff_eq.mpr c16
                 have c16b1 : (((rd_T38 x3_1 x5_2).f0).toList != ((rd_T38 l0 x4_1).f0).toList) = false := bne_eq_false_iff_eq.mpr c16
                 clear c16
                 obtain ⟨ji17, hji17⟩ : ∃ j_ : Int, (wrap64 (x5_2 + 1)) = j_ := ⟨_, rfl⟩
                 replace H : (if 0 ≤ (ji17) then (if (ji17) ≤ (x3_1.length : Int) then ((some (x3_1.drop ((ji17) : Int).toNat : List (S38))).bind fun y335 => (if y330.length + y335.length < 4398046511104 then (archivistref06_Of.l0 k2 l0 (y330 ++ y335) (wrap64 (x4_1 + 1))) else (none))) else (none)) else (none)) = some r := by first | (rw [hji17] at H; exact H) | (simp only [hji17] at H ⊢; exact H)
                 have hji17w : (IntKind.i64.wrap (x5_2 + 1)) = ji17 := (i64_w _).trans hji17
                 by_cases c18 : 0 ≤ (ji17)
                 ·rw [if_pos c18] at H
                  have c18b0 := eq_true c18
                  have c18b1 : decide (0 ≤ (ji17)) = true := decide_eq_true c18
                  clear c18
                  by_cases c19 : (ji17) ≤ (x3_1.length : Int)
                  ·rw [if_pos c19] at H
                   have c19b0 := eq_true c19
                   have c19b1 : decide ((ji17) ≤ (x3_1.length : Int)) = true := decide_eq_true c19
                   clear c19
                   obtain ⟨y335, hy335⟩ : ∃ y_ : List (S38), y_ = (x3_1.drop ((ji17) : Int).toNat) := ⟨_, rfl⟩
                   replace H : (if y330.length + y335.length < 4398046511104 then (archivistref06_Of.l0 k2 l0 (y330 ++ y335) (wrap64 (x4_1 + 1))) else (none)) = some r := by first | (rw [hy335]; with_reducible exact H) | (have H2_ := (Option.bind_some _ _).symm.trans H; rw [hy335]; with_reducible exact H2_) | (have H2_ := (Option.bind_some _ _).symm.trans H; with_reducible exact H2_) | with_reducible exact H | (rw [hy335]; exact H) | exact H
                   have Ny335 := Aside0.mk hy335
                   clear hy335
                   by_cases c20 : y330.length + y335.length < 4398046511104
                   ·rw [if_pos c20] at H
                    have LMc20 := Aside0.mk c20
                    clear c20
                    obtain ⟨y339, hy339⟩ : ∃ y_ : List (S38), y_ = (y330 ++ y335) := ⟨_, rfl⟩
                    replace H : (archivistref06_Of.l0 k2 l0 y339 (wrap64 (x4_1 + 1))) = some r := by first | (rw [hy339]; with_reducible exact H) | (have H2_ := (Option.bind_some _ _).symm.trans H; rw [hy339]; with_reducible exact H2_) | (have H2_ := (Option.bind_some _ _).symm.trans H; with_reducible exact H2_) | with_reducible exact H | (rw [hy339]; exact H) | exact H
                    have Ny339 := Aside0.mk hy339
                    clear hy339
                    have H' := Aside0.mk H
                    clear H
                    obtain ⟨Ao21, co21, eo21⟩ := Kd.R_slice HO_3.out
                    subst eo21
                    have p320 : 0 ≤ (x5_2 : Int) := od
                    have q320 : x5_2 < (x3_1.length : Int) := od
                    obtain ⟨ad320, e320, hx320_0, hx320_1⟩ := at_T38 (Kd.R_reads' HO_3.out).2.2 x5_2 p320 q320
                    cases e320
                    replace p320 := eq_true p320
                    replace q320 := eq_true q320
                    have p321 : 0 ≤ (x4_1 : Int) := od
                    have q321 : x4_1 < (l0.length : Int) := od
                    obtain ⟨ad321, e321, hx321_0, hx321_1⟩ := at_T38 HR0.out x4_1 p321 q321
                    obtain rfl : ad318 = ad321 := (by injection e321)
                    replace hx321_0 := cu HB.out hx321_0
                    replace hx321_1 := cu HB.out hx321_1
                    replace p321 := eq_true p321
                    replace q321 := eq_true q321
                    have q22 : (x5_2 : Int) ≤ ((x3_1.length : Int) : Int) := od
                    obtain ⟨i022, hi022, _, hsz22, _⟩ := info_parts info38
                    have hroom22 : x3_1.length ≤ co21 := (Kd.R_reads' HO_3.out).2.1
                    have hC22 : Kd.C k38 _ (some ad320) x3_1.length x3_1 := (Kd.R_reads' HO_3.out).2.2
                    have hcut22 := cut_to (P := Try.prog) 26 38 .i64 Try.underlying26 hi022 (some ad320) x3_1.length co21 x5_2 (od) q22 hroom22
                    have hr22 := Kd.C_take (m := (x5_2 : Int).toNat) hC22 (by omega)
                    have hy22 : y322.length = (x5_2 : Int).toNat := (by rw [Ny322.out, List.length_take]; omega)
                    rw [← Ny322.out] at hr22
                    rw [← hy22] at hcut22
                    have HR325 := Aside0.mk hr22
                    have HC325 := Aside0.mk (show y322.length ≤ co21 from by omega)
                    clear hr22 hC22 hroom22 hi022 hsz22
                    have KY22 := Aside0.mk hy22
                    clear hy22
                    have KL22 := Aside0.mk (show (x5_2 : Int).toNat ≤ x3_1.length from by omega)
                    replace q22 := eq_true q22
                    go_wp2_with (first | ((with_reducible refine gate_builtin (b := .append) (xs := #[.tmp 39, .tmp 42]) rfl ?_); at_builtin; refine Kd.R_append_rows k38 (w0 := w) w.heap.size rfl (.tmp 39) (.tmp 42) 26 38 (.agg #[(.string ⟨#[]⟩), (.string ⟨#[]⟩)]) 32 rfl Try.underlying26 info38 rfl (by decide) (by omega) (.slice none 0 0) ([] : List (S38)) y322 _ _ _ (fun k_ => some k_ ≠ (.slice (some ad320) x3_1.length co21 : Value).ownBlock) (fun _ => False) rfl rfl ?aO ?aR (fun _ _ h => h) (fun _ h => h.elim) ?aF ?aB ?aS ?aL ?_; (case aR => repeat (first | exact (by repeat (first | (with_reducible exact HR325.out) | (with_reducible refine Kd.C_alloc ?_ _) | (with_reducible refine Kd.C_drewN ?_ _) | (with_reducible refine Kd.C_drew ?_) | exact HR325.out)) | (with_reducible refine Kd.C_alloc ?_ _) | (with_reducible refine Kd.C_drewN ?_ _) | (with_reducible refine Kd.C_drew ?_))); (case aB => exact bl); (case aF => exact (fun k_ hk => Kd.fresh' (Kd.R_lt (rz HO_3.out)) k_ hk)); (case aO => exact ((Kd.R_nil _ _ _ _ (fun k_ => some k_ ≠ (.slice (some ad320) x3_1.length co21 : Value).ownBlock)))); (case aS => exact (below_size bl)); (case aL => have := LMc14.out; omega); intro v327 w23 ho hb hg hat; rw [← Ny326.out] at ho; have n0_ := Aside0.mk (Kd.R_after (Kd.R_apart_nil (rz HO_3.out)) hg hat); have n1_ := Aside0.mk (hb); have n2_ := Aside0.mk ((show Kd.C k38 w23 (some ad320) y322.length y322 from by rw [Ny322.out]; exact Kd.C_take (m := (x5_2 : Int).toNat) ((Kd.R_reads' (Kd.R_after (Kd.R_apart_nil (rz HO_3.out)) hg hat)).2.2) KL22.out)); have n3_ := Aside0.mk (ho); clear HO_3; clear HB; clear HR325; have HO_3 := n0_; have HB := n1_; have HR325 := n2_; have HO328 := n3_; clear n0_ n1_ n2_ n3_; clear ho hb hg hat; have p329 : 0 ≤ (x4_1 : Int) := od; have q329 : x4_1 < (l0.length : Int) := od; obtain ⟨ad329, e329, hx329_0, hx329_1⟩ := at_T38 HR0.out x4_1 p329 q329; obtain rfl : ad318 = ad329 := (by injection e329); replace hx329_0 := cu HB.out hx329_0; replace hx329_1 := cu HB.out hx329_1; replace p329 := eq_true p329; replace q329 := eq_true q329) | ((with_reducible refine gate_builtin (b := .append) (xs := #[.tmp 44, .tmp 49]) rfl ?_); at_builtin; refine Kd.R_append k38 (w0 := w) w.heap.size rfl (.tmp 44) (.tmp 49) 26 38 (.agg #[(.string ⟨#[]⟩), (.string ⟨#[]⟩)]) 32 rfl Try.underlying26 info38 rfl (by decide) (by omega) v327 y326 (⟨(rd_T38 l0 x4_1).f0, (rd_T38 l0 x4_1).f1⟩ : S38) [.string ((rd_T38 l0 x4_1).f0), .string ((rd_T38 l0 x4_1).f1)] (fun k_ => some k_ ≠ (.slice (some ad320) x3_1.length co21 : Value).ownBlock) (fun _ => False) rfl rfl ?aP (fun _ hk => hk.elim) ?aF ?aO ?aB ?aS ?aL ?_; (case aP => exact k38_mkM _ _ _ (⟨(rd_T38 l0 x4_1).f0, (rd_T38 l0 x4_1).f1⟩ : S38)); (case aB => exact bl); (case aF => exact (fun k_ hk => Kd.fresh' (Kd.R_lt (rz HO_3.out)) k_ hk)); (case aO => exact (rz HO328.out)); (case aS => exact (below_size bl)); (case aL => have := LMc15.out; omega); intro v331 w24 ho hb hg hat; rw [← Ny330.out] at ho; have n0_ := Aside0.mk (Kd.R_after (ok := (fun _ => True)) (rz HO_3.out) hg hat); have n1_ := Aside0.mk (hb); have n2_ := Aside0.mk ((show Kd.C k38 w24 (some ad320) y322.length y322 from by rw [Ny322.out]; exact Kd.C_take (m := (x5_2 : Int).toNat) ((Kd.R_reads' (Kd.R_after (ok := (fun _ => True)) (rz HO_3.out) hg hat)).2.2) KL22.out)); have n3_ := Aside0.mk (ho); clear HO_3; clear HB; clear HR325; clear HO328; have HO_3 := n0_; have HB := n1_; have HR325 := n2_; have HO332 := n3_; clear n0_ n1_ n2_ n3_; clear ho hb hg hat; have p333 : 0 ≤ (x5_2 : Int) := od; have q333 : x5_2 < (x3_1.length : Int) := od; obtain ⟨ad333, e333, hx333_0, hx333_1⟩ := at_T38 (Kd.R_reads' HO_3.out).2.2 x5_2 p333 q333; obtain rfl : ad320 = ad333 := (by injection e333); replace p333 := eq_true p333; replace q333 := eq_true q333; have p334 : 0 ≤ (x4_1 : Int) := od; have q334 : x4_1 < (l0.length : Int) := od; obtain ⟨ad334, e334, hx334_0, hx334_1⟩ := at_T38 HR0.out x4_1 p334 q334; obtain rfl : ad318 = ad334 := (by injection e334); replace hx334_0 := cu HB.out hx334_0; replace hx334_1 := cu HB.out hx334_1; replace p334 := eq_true p334; replace q334 := eq_true q334; have q25 : ((ji17) : Int) ≤ ((x3_1.length : Int) : Int) := od; obtain ⟨i025, hi025, _, hsz25, _⟩ := info_parts info38; have hroom25 : x3_1.length ≤ co21 := (Kd.R_reads' HO_3.out).2.1; have hC25 : Kd.C k38 _ (some ad320) x3_1.length x3_1 := (Kd.R_reads' HO_3.out).2.2; have q025 : (0 : Int) ≤ ((ji17) : Int) := od; have hcut25 := cut_from (P := Try.prog) 26 38 .i64 Try.underlying26 hi025 2 hsz25 (some ad320) x3_1.length co21 (ji17) q025 q25; have hr25 := Kd.C_drop (m := ((ji17) : Int).toNat) (c := co21) hC25 (by omega) hroom25; obtain ⟨A25, hA25⟩ : ∃ A1, A1 = (if co21 = ((ji17) : Int).toNat then (some ad320) else ((some ad320) : Option Addr).map (·.add (((ji17) : Int).toNat * 2))) := ⟨_, rfl⟩; obtain ⟨c25, hc25⟩ : ∃ c1, c1 = co21 - ((ji17) : Int).toNat := ⟨_, rfl⟩; have hy25 : y335.length = x3_1.length - ((ji17) : Int).toNat := (by rw [Ny335.out, List.length_drop] <;> omega); rw [show (x3_1).drop ((ji17) : Int).toNat = y335 from Ny335.out.symm] at hr25; replace hr25 : Kd.C k38 _ A25 y335.length y335 := (by rw [hA25]; exact hr25); rw [← hy25, ← hA25, ← hc25] at hcut25; have HR338 := Aside0.mk hr25; have HC338 := Aside0.mk (show y335.length ≤ c25 from by rw [hy25, hc25]; exact Nat.sub_le_sub_right hroom25 _); clear hr25 hC25 hroom25 hi025 hsz25 hc25; have KY25 := Aside0.mk hy25; have KA25 := Aside0.mk hA25; clear hy25 hA25; have KL25 := Aside0.mk (show ((ji17) : Int).toNat ≤ x3_1.length from by omega); replace q25 := eq_true q25) | ((with_reducible refine gate_builtin (b := .append) (xs := #[.tmp 70, .tmp 73]) rfl ?_); at_builtin; refine Kd.R_append_rows k38 (w0 := w) w.heap.size rfl (.tmp 70) (.tmp 73) 26 38 (.agg #[(.string ⟨#[]⟩), (.string ⟨#[]⟩)]) 32 rfl Try.underlying26 info38 rfl (by decide) (by omega) v331 y330 y335 _ _ _ (fun k_ => some k_ ≠ (.slice (some ad320) x3_1.length co21 : Value).ownBlock) (fun _ => False) rfl rfl ?aO ?aR (fun _ _ h => h) (fun _ h => h.elim) ?aF ?aB ?aS ?aL ?_; (case aR => repeat (first | exact (by repeat (first | (with_reducible exact HR338.out) | (with_reducible refine Kd.C_alloc ?_ _) | (with_reducible refine Kd.C_drewN ?_ _) | (with_reducible refine Kd.C_drew ?_) | exact HR338.out)) | (with_reducible refine Kd.C_alloc ?_ _) | (with_reducible refine Kd.C_drewN ?_ _) | (with_reducible refine Kd.C_drew ?_))); (case aB => exact bl); (case aF => exact (fun k_ hk => Kd.fresh' (Kd.R_lt (rz HO_3.out)) k_ hk)); (case aO => exact (rz HO332.out)); (case aS => exact (below_size bl)); (case aL => have := LMc20.out; omega); intro v340 w26 ho hb hg hat; rw [← Ny339.out] at ho; have n0_ := Aside0.mk (Kd.R_after (ok := (fun _ => True)) (rz HO_3.out) hg hat); have n1_ := Aside0.mk (hb); have n2_ := Aside0.mk ((show Kd.C k38 w26 (some ad320) y322.length y322 from by rw [Ny322.out]; exact Kd.C_take (m := (x5_2 : Int).toNat) ((Kd.R_reads' (Kd.R_after (ok := (fun _ => True)) (rz HO_3.out) hg hat)).2.2) KL22.out)); have n3_ := Aside0.mk ((show Kd.C k38 w26 A25 y335.length y335 from by rw [Ny335.out, KA25.out]; exact Kd.C_drop (m := ((ji17) : Int).toNat) (c := co21) ((Kd.R_reads' (Kd.R_after (ok := (fun _ => True)) (rz HO_3.out) hg hat)).2.2) KL25.out ((Kd.R_reads' (Kd.R_after (ok := (fun _ => True)) (rz HO_3.out) hg hat)).2.1))); have n4_ := Aside0.mk (ho); clear HO_3; clear HB; clear HR325; clear HR338; clear HO332; have HO_3 := n0_; have HB := n1_; have HR325 := n2_; have HR338 := n3_; have HO341 := n4_; clear n0_ n1_ n2_ n3_ n4_; clear ho hb hg hat))
                    repeat (go_quiet (first | ((with_reducible refine gate_builtin (b := .append) (xs := #[.tmp 39, .tmp 42]) rfl ?_); at_builtin; refine Kd.R_append_rows k38 (w0 := w) w.heap.size rfl (.tmp 39) (.tmp 42) 26 38 (.agg #[(.string ⟨#[]⟩), (.string ⟨#[]⟩)]) 32 rfl Try.underlying26 info38 rfl (by decide) (by omega) (.slice none 0 0) ([] : List (S38)) y322 _ _ _ (fun k_ => some k_ ≠ (.slice (some ad320) x3_1.length co21 : Value).ownBlock) (fun _ => False) rfl rfl ?aO ?aR (fun _ _ h => h) (fun _ h => h.elim) ?aF ?aB ?aS ?aL ?_; (case aR => repeat (first | exact (by repeat (first | (with_reducible exact HR325.out) | (with_reducible refine Kd.C_alloc ?_ _) | (with_reducible refine Kd.C_drewN ?_ _) | (with_reducible refine Kd.C_drew ?_) | exact HR325.out)) | (with_reducible refine Kd.C_alloc ?_ _) | (with_reducible refine Kd.C_drewN ?_ _) | (with_reducible refine Kd.C_drew ?_))); (case aB => exact bl); (case aF => exact (fun k_ hk => Kd.fresh' (Kd.R_lt (rz HO_3.out)) k_ hk)); (case aO => exact ((Kd.R_nil _ _ _ _ (fun k_ => some k_ ≠ (.slice (some ad320) x3_1.length co21 : Value).ownBlock)))); (case aS => exact (below_size bl)); (case aL => have := LMc14.out; omega); intro v327 w23 ho hb hg hat; rw [← Ny326.out] at ho; have n0_ := Aside0.mk (Kd.R_after (Kd.R_apart_nil (rz HO_3.out)) hg hat); have n1_ := Aside0.mk (hb); have n2_ := Aside0.mk ((show Kd.C k38 w23 (some ad320) y322.length y322 from by rw [Ny322.out]; exact Kd.C_take (m := (x5_2 : Int).toNat) ((Kd.R_reads' (Kd.R_after (Kd.R_apart_nil (rz HO_3.out)) hg hat)).2.2) KL22.out)); have n3_ := Aside0.mk (ho); clear HO_3; clear HB; clear HR325; have HO_3 := n0_; have HB := n1_; have HR325 := n2_; have HO328 := n3_; clear n0_ n1_ n2_ n3_; clear ho hb hg hat; have p329 : 0 ≤ (x4_1 : Int) := od; have q329 : x4_1 < (l0.length : Int) := od; obtain ⟨ad329, e329, hx329_0, hx329_1⟩ := at_T38 HR0.out x4_1 p329 q329; obtain rfl : ad318 = ad329 := (by injection e329); replace hx329_0 := cu HB.out hx329_0; replace hx329_1 := cu HB.out hx329_1; replace p329 := eq_true p329; replace q329 := eq_true q329) | ((with_reducible refine gate_builtin (b := .append) (xs := #[.tmp 44, .tmp 49]) rfl ?_); at_builtin; refine Kd.R_append k38 (w0 := w) w.heap.size rfl (.tmp 44) (.tmp 49) 26 38 (.agg #[(.string ⟨#[]⟩), (.string ⟨#[]⟩)]) 32 rfl Try.underlying26 info38 rfl (by decide) (by omega) v327 y326 (⟨(rd_T38 l0 x4_1).f0, (rd_T38 l0 x4_1).f1⟩ : S38) [.string ((rd_T38 l0 x4_1).f0), .string ((rd_T38 l0 x4_1).f1)] (fun k_ => some k_ ≠ (.slice (some ad320) x3_1.length co21 : Value).ownBlock) (fun _ => False) rfl rfl ?aP (fun _ hk => hk.elim) ?aF ?aO ?aB ?aS ?aL ?_; (case aP => exact k38_mkM _ _ _ (⟨(rd_T38 l0 x4_1).f0, (rd_T38 l0 x4_1).f1⟩ : S38)); (case aB => exact bl); (case aF => exact (fun k_ hk => Kd.fresh' (Kd.R_lt (rz HO_3.out)) k_ hk)); (case aO => exact (rz HO328.out)); (case aS => exact (below_size bl)); (case aL => have := LMc15.out; omega); intro v331 w24 ho hb hg hat; rw [← Ny330.out] at ho; have n0_ := Aside0.mk (Kd.R_after (ok := (fun _ => True)) (rz HO_3.out) hg hat); have n1_ := Aside0.mk (hb); have n2_ := Aside0.mk ((show Kd.C k38 w24 (some ad320) y322.length y322 from by rw [Ny322.out]; exact Kd.C_take (m := (x5_2 : Int).toNat) ((Kd.R_reads' (Kd.R_after (ok := (fun _ => True)) (rz HO_3.out) hg hat)).2.2) KL22.out)); have n3_ := Aside0.mk (ho); clear HO_3; clear HB; clear HR325; clear HO328; have HO_3 := n0_; have HB := n1_; have HR325 := n2_; have HO332 := n3_; clear n0_ n1_ n2_ n3_; clear ho hb hg hat; have p333 : 0 ≤ (x5_2 : Int) := od; have q333 : x5_2 < (x3_1.length : Int) := od; obtain ⟨ad333, e333, hx333_0, hx333_1⟩ := at_T38 (Kd.R_reads' HO_3.out).2.2 x5_2 p333 q333; obtain rfl : ad320 = ad333 := (by injection e333); replace p333 := eq_true p333; replace q333 := eq_true q333; have p334 : 0 ≤ (x4_1 : Int) := od; have q334 : x4_1 < (l0.length : Int) := od; obtain ⟨ad334, e334, hx334_0, hx334_1⟩ := at_T38 HR0.out x4_1 p334 q334; obtain rfl : ad318 = ad334 := (by injection e334); replace hx334_0 := cu HB.out hx334_0; replace hx334_1 := cu HB.out hx334_1; replace p334 := eq_true p334; replace q334 := eq_true q334; have q25 : ((ji17) : Int) ≤ ((x3_1.length : Int) : Int) := od; obtain ⟨i025, hi025, _, hsz25, _⟩ := info_parts info38; have hroom25 : x3_1.length ≤ co21 := (Kd.R_reads' HO_3.out).2.1; have hC25 : Kd.C k38 _ (some ad320) x3_1.length x3_1 := (Kd.R_reads' HO_3.out).2.2; have q025 : (0 : Int) ≤ ((ji17) : Int) := od; have hcut25 := cut_from (P := Try.prog) 26 38 .i64 Try.underlying26 hi025 2 hsz25 (some ad320) x3_1.length co21 (ji17) q025 q25; have hr25 := Kd.C_drop (m := ((ji17) : Int).toNat) (c := co21) hC25 (by omega) hroom25; obtain ⟨A25, hA25⟩ : ∃ A1, A1 = (if co21 = ((ji17) : Int).toNat then (some ad320) else ((some ad320) : Option Addr).map (·.add (((ji17) : Int).toNat * 2))) := ⟨_, rfl⟩; obtain ⟨c25, hc25⟩ : ∃ c1, c1 = co21 - ((ji17) : Int).toNat := ⟨_, rfl⟩; have hy25 : y335.length = x3_1.length - ((ji17) : Int).toNat := (by rw [Ny335.out, List.length_drop] <;> omega); rw [show (x3_1).drop ((ji17) : Int).toNat = y335 from Ny335.out.symm] at hr25; replace hr25 : Kd.C k38 _ A25 y335.length y335 := (by rw [hA25]; exact hr25); rw [← hy25, ← hA25, ← hc25] at hcut25; have HR338 := Aside0.mk hr25; have HC338 := Aside0.mk (show y335.length ≤ c25 from by rw [hy25, hc25]; exact Nat.sub_le_sub_right hroom25 _); clear hr25 hC25 hroom25 hi025 hsz25 hc25; have KY25 := Aside0.mk hy25; have KA25 := Aside0.mk hA25; clear hy25 hA25; have KL25 := Aside0.mk (show ((ji17) : Int).toNat ≤ x3_1.length from by omega); replace q25 := eq_true q25) | ((with_reducible refine gate_builtin (b := .append) (xs := #[.tmp 70, .tmp 73]) rfl ?_); at_builtin; refine Kd.R_append_rows k38 (w0 := w) w.heap.size rfl (.tmp 70) (.tmp 73) 26 38 (.agg #[(.string ⟨#[]⟩), (.string ⟨#[]⟩)]) 32 rfl Try.underlying26 info38 rfl (by decide) (by omega) v331 y330 y335 _ _ _ (fun k_ => some k_ ≠ (.slice (some ad320) x3_1.length co21 : Value).ownBlock) (fun _ => False) rfl rfl ?aO ?aR (fun _ _ h => h) (fun _ h => h.elim) ?aF ?aB ?aS ?aL ?_; (case aR => repeat (first | exact (by repeat (first | (with_reducible exact HR338.out) | (with_reducible refine Kd.C_alloc ?_ _) | (with_reducible refine Kd.C_drewN ?_ _) | (with_reducible refine Kd.C_drew ?_) | exact HR338.out)) | (with_reducible refine Kd.C_alloc ?_ _) | (with_reducible refine Kd.C_drewN ?_ _) | (with_reducible refine Kd.C_drew ?_))); (case aB => exact bl); (case aF => exact (fun k_ hk => Kd.fresh' (Kd.R_lt (rz HO_3.out)) k_ hk)); (case aO => exact (rz HO332.out)); (case aS => exact (below_size bl)); (case aL => have := LMc20.out; omega); intro v340 w26 ho hb hg hat; rw [← Ny339.out] at ho; have n0_ := Aside0.mk (Kd.R_after (ok := (fun _ => True)) (rz HO_3.out) hg hat); have n1_ := Aside0.mk (hb); have n2_ := Aside0.mk ((show Kd.C k38 w26 (some ad320) y322.length y322 from by rw [Ny322.out]; exact Kd.C_take (m := (x5_2 : Int).toNat) ((Kd.R_reads' (Kd.R_after (ok := (fun _ => True)) (rz HO_3.out) hg hat)).2.2) KL22.out)); have n3_ := Aside0.mk ((show Kd.C k38 w26 A25 y335.length y335 from by rw [Ny335.out, KA25.out]; exact Kd.C_drop (m := ((ji17) : Int).toNat) (c := co21) ((Kd.R_reads' (Kd.R_after (ok := (fun _ => True)) (rz HO_3.out) hg hat)).2.2) KL25.out ((Kd.R_reads' (Kd.R_after (ok := (fun _ => True)) (rz HO_3.out) hg hat)).2.1))); have n4_ := Aside0.mk (ho); clear HO_3; clear HB; clear HR325; clear HR338; clear HO332; have HO_3 := n0_; have HB := n1_; have HR325 := n2_; have HR338 := n3_; have HO341 := n4_; clear n0_ n1_ n2_ n3_ n4_; clear ho hb hg hat)); try go_wp2_with (first | ((with_reducible refine gate_builtin (b := .append) (xs := #[.tmp 39, .tmp 42]) rfl ?_); at_builtin; refine Kd.R_append_rows k38 (w0 := w) w.heap.size rfl (.tmp 39) (.tmp 42) 26 38 (.agg #[(.string ⟨#[]⟩), (.string ⟨#[]⟩)]) 32 rfl Try.underlying26 info38 rfl (by decide) (by omega) (.slice none 0 0) ([] : List (S38)) y322 _ _ _ (fun k_ => some k_ ≠ (.slice (some ad320) x3_1.length co21 : Value).ownBlock) (fun _ => False) rfl rfl ?aO ?aR (fun _ _ h => h) (fun _ h => h.elim) ?aF ?aB ?aS ?aL ?_; (case aR => repeat (first | exact (by repeat (first | (with_reducible exact HR325.out) | (with_reducible refine Kd.C_alloc ?_ _) | (with_reducible refine Kd.C_drewN ?_ _) | (with_reducible refine Kd.C_drew ?_) | exact HR325.out)) | (with_reducible refine Kd.C_alloc ?_ _) | (with_reducible refine Kd.C_drewN ?_ _) | (with_reducible refine Kd.C_drew ?_))); (case aB => exact bl); (case aF => exact (fun k_ hk => Kd.fresh' (Kd.R_lt (rz HO_3.out)) k_ hk)); (case aO => exact ((Kd.R_nil _ _ _ _ (fun k_ => some k_ ≠ (.slice (some ad320) x3_1.length co21 : Value).ownBlock)))); (case aS => exact (below_size bl)); (case aL => have := LMc14.out; omega); intro v327 w23 ho hb hg hat; rw [← Ny326.out] at ho; have n0_ := Aside0.mk (Kd.R_after (Kd.R_apart_nil (rz HO_3.out)) hg hat); have n1_ := Aside0.mk (hb); have n2_ := Aside0.mk ((show Kd.C k38 w23 (some ad320) y322.length y322 from by rw [Ny322.out]; exact Kd.C_take (m := (x5_2 : Int).toNat) ((Kd.R_reads' (Kd.R_after (Kd.R_apart_nil (rz HO_3.out)) hg hat)).2.2) KL22.out)); have n3_ := Aside0.mk (ho); clear HO_3; clear HB; clear HR325; have HO_3 := n0_; have HB := n1_; have HR325 := n2_; have HO328 := n3_; clear n0_ n1_ n2_ n3_; clear ho hb hg hat; have p329 : 0 ≤ (x4_1 : Int) := od; have q329 : x4_1 < (l0.length : Int) := od; obtain ⟨ad329, e329, hx329_0, hx329_1⟩ := at_T38 HR0.out x4_1 p329 q329; obtain rfl : ad318 = ad329 := (by injection e329); replace hx329_0 := cu HB.out hx329_0; replace hx329_1 := cu HB.out hx329_1; replace p329 := eq_true p329; replace q329 := eq_true q329) | ((with_reducible refine gate_builtin (b := .append) (xs := #[.tmp 44, .tmp 49]) rfl ?_); at_builtin; refine Kd.R_append k38 (w0 := w) w.heap.size rfl (.tmp 44) (.tmp 49) 26 38 (.agg #[(.string ⟨#[]⟩), (.string ⟨#[]⟩)]) 32 rfl Try.underlying26 info38 rfl (by decide) (by omega) v327 y326 (⟨(rd_T38 l0 x4_1).f0, (rd_T38 l0 x4_1).f1⟩ : S38) [.string ((rd_T38 l0 x4_1).f0), .string ((rd_T38 l0 x4_1).f1)] (fun k_ => some k_ ≠ (.slice (some ad320) x3_1.length co21 : Value).ownBlock) (fun _ => False) rfl rfl ?aP (fun _ hk => hk.elim) ?aF ?aO ?aB ?aS ?aL ?_; (case aP => exact k38_mkM _ _ _ (⟨(rd_T38 l0 x4_1).f0, (rd_T38 l0 x4_1).f1⟩ : S38)); (case aB => exact bl); (case aF => exact (fun k_ hk => Kd.fresh' (Kd.R_lt (rz HO_3.out)) k_ hk)); (case aO => exact (rz HO328.out)); (case aS => exact (below_size bl)); (case aL => have := LMc15.out; omega); intro v331 w24 ho hb hg hat; rw [← Ny330.out] at ho; have n0_ := Aside0.mk (Kd.R_after (ok := (fun _ => True)) (rz HO_3.out) hg hat); have n1_ := Aside0.mk (hb); have n2_ := Aside0.mk ((show Kd.C k38 w24 (some ad320) y322.length y322 from by rw [Ny322.out]; exact Kd.C_take (m := (x5_2 : Int).toNat) ((Kd.R_reads' (Kd.R_after (ok := (fun _ => True)) (rz HO_3.out) hg hat)).2.2) KL22.out)); have n3_ := Aside0.mk (ho); clear HO_3; clear HB; clear HR325; clear HO328; have HO_3 := n0_; have HB := n1_; have HR325 := n2_; have HO332 := n3_; clear n0_ n1_ n2_ n3_; clear ho hb hg hat; have p333 : 0 ≤ (x5_2 : Int) := od; have q333 : x5_2 < (x3_1.length : Int) := od; obtain ⟨ad333, e333, hx333_0, hx333_1⟩ := at_T38 (Kd.R_reads' HO_3.out).2.2 x5_2 p333 q333; obtain rfl : ad320 = ad333 := (by injection e333); replace p333 := eq_true p333; replace q333 := eq_true q333; have p334 : 0 ≤ (x4_1 : Int) := od; have q334 : x4_1 < (l0.length : Int) := od; obtain ⟨ad334, e334, hx334_0, hx334_1⟩ := at_T38 HR0.out x4_1 p334 q334; obtain rfl : ad318 = ad334 := (by injection e334); replace hx334_0 := cu HB.out hx334_0; replace hx334_1 := cu HB.out hx334_1; replace p334 := eq_true p334; replace q334 := eq_true q334; have q25 : ((ji17) : Int) ≤ ((x3_1.length : Int) : Int) := od; obtain ⟨i025, hi025, _, hsz25, _⟩ := info_parts info38; have hroom25 : x3_1.length ≤ co21 := (Kd.R_reads' HO_3.out).2.1; have hC25 : Kd.C k38 _ (some ad320) x3_1.length x3_1 := (Kd.R_reads' HO_3.out).2.2; have q025 : (0 : Int) ≤ ((ji17) : Int) := od; have hcut25 := cut_from (P := Try.prog) 26 38 .i64 Try.underlying26 hi025 2 hsz25 (some ad320) x3_1.length co21 (ji17) q025 q25; have hr25 := Kd.C_drop (m := ((ji17) : Int).toNat) (c := co21) hC25 (by omega) hroom25; obtain ⟨A25, hA25⟩ : ∃ A1, A1 = (if co21 = ((ji17) : Int).toNat then (some ad320) else ((some ad320) : Option Addr).map (·.add (((ji17) : Int).toNat * 2))) := ⟨_, rfl⟩; obtain ⟨c25, hc25⟩ : ∃ c1, c1 = co21 - ((ji17) : Int).toNat := ⟨_, rfl⟩; have hy25 : y335.length = x3_1.length - ((ji17) : Int).toNat := (by rw [Ny335.out, List.length_drop] <;> omega); rw [show (x3_1).drop ((ji17) : Int).toNat = y335 from Ny335.out.symm] at hr25; replace hr25 : Kd.C k38 _ A25 y335.length y335 := (by rw [hA25]; exact hr25); rw [← hy25, ← hA25, ← hc25] at hcut25; have HR338 := Aside0.mk hr25; have HC338 := Aside0.mk (show y335.length ≤ c25 from by rw [hy25, hc25]; exact Nat.sub_le_sub_right hroom25 _); clear hr25 hC25 hroom25 hi025 hsz25 hc25; have KY25 := Aside0.mk hy25; have KA25 := Aside0.mk hA25; clear hy25 hA25; have KL25 := Aside0.mk (show ((ji17) : Int).toNat ≤ x3_1.length from by omega); replace q25 := eq_true q25) | ((with_reducible refine gate_builtin (b := .append) (xs := #[.tmp 70, .tmp 73]) rfl ?_); at_builtin; refine Kd.R_append_rows k38 (w0 := w) w.heap.size rfl (.tmp 70) (.tmp 73) 26 38 (.agg #[(.string ⟨#[]⟩), (.string ⟨#[]⟩)]) 32 rfl Try.underlying26 info38 rfl (by decide) (by omega) v331 y330 y335 _ _ _ (fun k_ => some k_ ≠ (.slice (some ad320) x3_1.length co21 : Value).ownBlock) (fun _ => False) rfl rfl ?aO ?aR (fun _ _ h => h) (fun _ h => h.elim) ?aF ?aB ?aS ?aL ?_; (case aR => repeat (first | exact (by repeat (first | (with_reducible exact HR338.out) | (with_reducible refine Kd.C_alloc ?_ _) | (with_reducible refine Kd.C_drewN ?_ _) | (with_reducible refine Kd.C_drew ?_) | exact HR338.out)) | (with_reducible refine Kd.C_alloc ?_ _) | (with_reducible refine Kd.C_drewN ?_ _) | (with_reducible refine Kd.C_drew ?_))); (case aB => exact bl); (case aF => exact (fun k_ hk => Kd.fresh' (Kd.R_lt (rz HO_3.out)) k_ hk)); (case aO => exact (rz HO332.out)); (case aS => exact (below_size bl)); (case aL => have := LMc20.out; omega); intro v340 w26 ho hb hg hat; rw [← Ny339.out] at ho; have n0_ := Aside0.mk (Kd.R_after (ok := (fun _ => True)) (rz HO_3.out) hg hat); have n1_ := Aside0.mk (hb); have n2_ := Aside0.mk ((show Kd.C k38 w26 (some ad320) y322.length y322 from by rw [Ny322.out]; exact Kd.C_take (m := (x5_2 : Int).toNat) ((Kd.R_reads' (Kd.R_after (ok := (fun _ => True)) (rz HO_3.out) hg hat)).2.2) KL22.out)); have n3_ := Aside0.mk ((show Kd.C k38 w26 A25 y335.length y335 from by rw [Ny335.out, KA25.out]; exact Kd.C_drop (m := ((ji17) : Int).toNat) (c := co21) ((Kd.R_reads' (Kd.R_after (ok := (fun _ => True)) (rz HO_3.out) hg hat)).2.2) KL25.out ((Kd.R_reads' (Kd.R_after (ok := (fun _ => True)) (rz HO_3.out) hg hat)).2.1))); have n4_ := Aside0.mk (ho); clear HO_3; clear HB; clear HR325; clear HR338; clear HO332; have HO_3 := n0_; have HB := n1_; have HR325 := n2_; have HR338 := n3_; have HO341 := n4_; clear n0_ n1_ n2_ n3_ n4_; clear ho hb hg hat)))
                    go_roundg k2
                    case measure => have := HK1.out; have := HK2.out; omega
                    case rel => exact ⟨(y339), (wrap64 (x4_1 + 1)), rs, H', ⟨by have := HK1.out; have := HK2.out; omega⟩, ⟨by (with_reducible repeat (first | apply Kd.R_alloc | apply Kd.R_drewN | apply Kd.R_drew)); exact Kd.R_mono HO341.out (fun _ hk => trivial)⟩, ⟨bl⟩⟩
                   ·rw [if_neg c20] at H
                    exact absurd H (by simp)
                  ·rw [if_neg c19] at H
                   exact absurd H (by simp)
                 ·rw [if_neg c18] at H
                  exact absurd H (by simp)
                ·rw [if_neg c16] at H
                 have c16b0 : (((rd_T38 x3_1 x5_2).f0).toList == ((rd_T38 l0 x4_1).f0).toList) = false := beq_eq_false_iff_ne.mpr c16
                 have c16b1 : (((rd_T38 x3_1 x5_2).f0).toList != ((rd_T38 l0 x4_1).f0).toList) = true := bne_iff_ne.mpr c16
                 have c27b0 := eq_true (od : 0 ≤ x5_2)
                 have c28b0 := eq_true (od : x5_2 ≤ (x3_1.length : Int))
                 obtain ⟨y342, hy342⟩ : ∃ y_ : List (S38), y_ = (x3_1.drop (x5_2 : Int).toNat) := ⟨_, rfl⟩
                 replace H : (if y330.length + y342.length < 4398046511104 then (archivistref06_Of.l0 k2 l0 (y330 ++ y342) (wrap64 (x4_1 + 1))) else (none)) = some r := by first | (rw [hy342]; with_reducible exact H) | (have H2_ := (Option.bind_some _ _).symm.trans H; rw [hy342]; with_reducible exact H2_) | (have H2_ := (Option.bind_some _ _).symm.trans H; with_reducible exact H2_) | with_reducible exact H | (rw [hy342]; exact H) | exact H
                 have Ny342 := Aside0.mk hy342
                 clear hy342
                 by_cases c29 : y330.length + y342.length < 4398046511104
                 ·rw [if_pos c29] at H
                  have LMc29 := Aside0.mk c29
                  clear c29
                  obtain ⟨y346, hy346⟩ : ∃ y_ : List (S38), y_ = (y330 ++ y342) := ⟨_, rfl⟩
                  replace H : (archivistref06_Of.l0 k2 l0 y346 (wrap64 (x4_1 + 1))) = some r := by first | (rw [hy346]; with_reducible exact H) | (have H2_ := (Option.bind_some _ _).symm.trans H; rw [hy346]; with_reducible exact H2_) | (have H2_ := (Option.bind_some _ _).symm.trans H; with_reducible exact H2_) | with_reducible exact H | (rw [hy346]; exact H) | exact H
                  have Ny346 := Aside0.mk hy346
                  clear hy346
                  have H' := Aside0.mk H
                  clear H
                  obtain ⟨Ao30, co30, eo30⟩ := Kd.R_slice HO_3.out
                  subst eo30
                  have p320 : 0 ≤ (x5_2 : Int) := od
                  have q320 : x5_2 < (x3_1.length : Int) := od
                  obtain ⟨ad320, e320, hx320_0, hx320_1⟩ := at_T38 (Kd.R_reads' HO_3.out).2.2 x5_2 p320 q320
                  cases e320
                  replace p320 := eq_true p320
                  replace q320 := eq_true q320
                  have p321 : 0 ≤ (x4_1 : Int) := od
                  have q321 : x4_1 < (l0.length : Int) := od
                  obtain ⟨ad321, e321, hx321_0, hx321_1⟩ := at_T38 HR0.out x4_1 p321 q321
                  obtain rfl : ad318 = ad321 := (by injection e321)
                  replace hx321_0 := cu HB.out hx321_0
                  replace hx321_1 := cu HB.out hx321_1
                  replace p321 := eq_true p321
                  replace q321 := eq_true q321
                  have q31 : (x5_2 : Int) ≤ ((x3_1.length : Int) : Int) := od
                  obtain ⟨i031, hi031, _, hsz31, _⟩ := info_parts info38
                  have hroom31 : x3_1.length ≤ co30 := (Kd.R_reads' HO_3.out).2.1
                  have hC31 : Kd.C k38 _ (some ad320) x3_1.length x3_1 := (Kd.R_reads' HO_3.out).2.2
                  have hcut31 := cut_to (P := Try.prog) 26 38 .i64 Try.underlying26 hi031 (some ad320) x3_1.length co30 x5_2 (od) q31 hroom31
                  have hr31 := Kd.C_take (m := (x5_2 : Int).toNat) hC31 (by omega)
                  have hy31 : y322.length = (x5_2 : Int).toNat := (by rw [Ny322.out, List.length_take]; omega)
                  rw [← Ny322.out] at hr31
                  rw [← hy31] at hcut31
                  have HR325 := Aside0.mk hr31
                  have HC325 := Aside0.mk (show y322.length ≤ co30 from by omega)
                  clear hr31 hC31 hroom31 hi031 hsz31
                  have KY31 := Aside0.mk hy31
                  clear hy31
                  have KL31 := Aside0.mk (show (x5_2 : Int).toNat ≤ x3_1.length from by omega)
                  replace q31 := eq_true q31
                  go_wp2_with (first | ((with_reducible refine gate_builtin (b := .append) (xs := #[.tmp 39, .tmp 42]) rfl ?_); at_builtin; refine Kd.R_append_rows k38 (w0 := w) w.heap.size rfl (.tmp 39) (.tmp 42) 26 38 (.agg #[(.string ⟨#[]⟩), (.string ⟨#[]⟩)]) 32 rfl Try.underlying26 info38 rfl (by decide) (by omega) (.slice none 0 0) ([] : List (S38)) y322 _ _ _ (fun k_ => some k_ ≠ (.slice (some ad320) x3_1.length co30 : Value).ownBlock) (fun _ => False) rfl rfl ?aO ?aR (fun _ _ h => h) (fun _ h => h.elim) ?aF ?aB ?aS ?aL ?_; (case aR => repeat (first | exact (by repeat (first | (with_reducible exact HR325.out) | (with_reducible refine Kd.C_alloc ?_ _) | (with_reducible refine Kd.C_drewN ?_ _) | (with_reducible refine Kd.C_drew ?_) | exact HR325.out)) | (with_reducible refine Kd.C_alloc ?_ _) | (with_reducible refine Kd.C_drewN ?_ _) | (with_reducible refine Kd.C_drew ?_))); (case aB => exact bl); (case aF => exact (fun k_ hk => Kd.fresh' (Kd.R_lt (rz HO_3.out)) k_ hk)); (case aO => exact ((Kd.R_nil _ _ _ _ (fun k_ => some k_ ≠ (.slice (some ad320) x3_1.length co30 : Value).ownBlock)))); (case aS => exact (below_size bl)); (case aL => have := LMc14.out; omega); intro v327 w32 ho hb hg hat; rw [← Ny326.out] at ho; have n0_ := Aside0.mk (Kd.R_after (Kd.R_apart_nil (rz HO_3.out)) hg hat); have n1_ := Aside0.mk (hb); have n2_ := Aside0.mk ((show Kd.C k38 w32 (some ad320) y322.length y322 from by rw [Ny322.out]; exact Kd.C_take (m := (x5_2 : Int).toNat) ((Kd.R_reads' (Kd.R_after (Kd.R_apart_nil (rz HO_3.out)) hg hat)).2.2) KL31.out)); have n3_ := Aside0.mk (ho); clear HO_3; clear HB; clear HR325; have HO_3 := n0_; have HB := n1_; have HR325 := n2_; have HO328 := n3_; clear n0_ n1_ n2_ n3_; clear ho hb hg hat; have p329 : 0 ≤ (x4_1 : Int) := od; have q329 : x4_1 < (l0.length : Int) := od; obtain ⟨ad329, e329, hx329_0, hx329_1⟩ := at_T38 HR0.out x4_1 p329 q329; obtain rfl : ad318 = ad329 := (by injection e329); replace hx329_0 := cu HB.out hx329_0; replace hx329_1 := cu HB.out hx329_1; replace p329 := eq_true p329; replace q329 := eq_true q329) | ((with_reducible refine gate_builtin (b := .append) (xs := #[.tmp 44, .tmp 49]) rfl ?_); at_builtin; refine Kd.R_append k38 (w0 := w) w.heap.size rfl (.tmp 44) (.tmp 49) 26 38 (.agg #[(.string ⟨#[]⟩), (.string ⟨#[]⟩)]) 32 rfl Try.underlying26 info38 rfl (by decide) (by omega) v327 y326 (⟨(rd_T38 l0 x4_1).f0, (rd_T38 l0 x4_1).f1⟩ : S38) [.string ((rd_T38 l0 x4_1).f0), .string ((rd_T38 l0 x4_1).f1)] (fun k_ => some k_ ≠ (.slice (some ad320) x3_1.length co30 : Value).ownBlock) (fun _ => False) rfl rfl ?aP (fun _ hk => hk.elim) ?aF ?aO ?aB ?aS ?aL ?_; (case aP => exact k38_mkM _ _ _ (⟨(rd_T38 l0 x4_1).f0, (rd_T38 l0 x4_1).f1⟩ : S38)); (case aB => exact bl); (case aF => exact (fun k_ hk => Kd.fresh' (Kd.R_lt (rz HO_3.out)) k_ hk)); (case aO => exact (rz HO328.out)); (case aS => exact (below_size bl)); (case aL => have := LMc15.out; omega); intro v331 w33 ho hb hg hat; rw [← Ny330.out] at ho; have n0_ := Aside0.mk (Kd.R_after (ok := (fun _ => True)) (rz HO_3.out) hg hat); have n1_ := Aside0.mk (hb); have n2_ := Aside0.mk ((show Kd.C k38 w33 (some ad320) y322.length y322 from by rw [Ny322.out]; exact Kd.C_take (m := (x5_2 : Int).toNat) ((Kd.R_reads' (Kd.R_after (ok := (fun _ => True)) (rz HO_3.out) hg hat)).2.2) KL31.out)); have n3_ := Aside0.mk (ho); clear HO_3; clear HB; clear HR325; clear HO328; have HO_3 := n0_; have HB := n1_; have HR325 := n2_; have HO332 := n3_; clear n0_ n1_ n2_ n3_; clear ho hb hg hat; have p333 : 0 ≤ (x5_2 : Int) := od; have q333 : x5_2 < (x3_1.length : Int) := od; obtain ⟨ad333, e333, hx333_0, hx333_1⟩ := at_T38 (Kd.R_reads' HO_3.out).2.2 x5_2 p333 q333; obtain rfl : ad320 = ad333 := (by injection e333); replace p333 := eq_true p333; replace q333 := eq_true q333; have p334 : 0 ≤ (x4_1 : Int) := od; have q334 : x4_1 < (l0.length : Int) := od; obtain ⟨ad334, e334, hx334_0, hx334_1⟩ := at_T38 HR0.out x4_1 p334 q334; obtain rfl : ad318 = ad334 := (by injection e334); replace hx334_0 := cu HB.out hx334_0; replace hx334_1 := cu HB.out hx334_1; replace p334 := eq_true p334; replace q334 := eq_true q334; have q34 : (x5_2 : Int) ≤ ((x3_1.length : Int) : Int) := od; obtain ⟨i034, hi034, _, hsz34, _⟩ := info_parts info38; have hroom34 : x3_1.length ≤ co30 := (Kd.R_reads' HO_3.out).2.1; have hC34 : Kd.C k38 _ (some ad320) x3_1.length x3_1 := (Kd.R_reads' HO_3.out).2.2; have q034 : (0 : Int) ≤ (x5_2 : Int) := od; have hcut34 := cut_from (P := Try.prog) 26 38 .i64 Try.underlying26 hi034 2 hsz34 (some ad320) x3_1.length co30 x5_2 q034 q34; have hr34 := Kd.C_drop (m := (x5_2 : Int).toNat) (c := co30) hC34 (by omega) hroom34; obtain ⟨A34, hA34⟩ : ∃ A1, A1 = (if co30 = (x5_2 : Int).toNat then (some ad320) else ((some ad320) : Option Addr).map (·.add ((x5_2 : Int).toNat * 2))) := ⟨_, rfl⟩; obtain ⟨c34, hc34⟩ : ∃ c1, c1 = co30 - (x5_2 : Int).toNat := ⟨_, rfl⟩; have hy34 : y342.length = x3_1.length - (x5_2 : Int).toNat := (by rw [Ny342.out, List.length_drop] <;> omega); rw [show (x3_1).drop (x5_2 : Int).toNat = y342 from Ny342.out.symm] at hr34; replace hr34 : Kd.C k38 _ A34 y342.length y342 := (by rw [hA34]; exact hr34); rw [← hy34, ← hA34, ← hc34] at hcut34; have HR345 := Aside0.mk hr34; have HC345 := Aside0.mk (show y342.length ≤ c34 from by rw [hy34, hc34]; exact Nat.sub_le_sub_right hroom34 _); clear hr34 hC34 hroom34 hi034 hsz34 hc34; have KY34 := Aside0.mk hy34; have KA34 := Aside0.mk hA34; clear hy34 hA34; have KL34 := Aside0.mk (show (x5_2 : Int).toNat ≤ x3_1.length from by omega); replace q34 := eq_true q34) | ((with_reducible refine gate_builtin (b := .append) (xs := #[.tmp 70, .tmp 73]) rfl ?_); at_builtin; refine Kd.R_append_rows k38 (w0 := w) w.heap.size rfl (.tmp 70) (.tmp 73) 26 38 (.agg #[(.string ⟨#[]⟩), (.string ⟨#[]⟩)]) 32 rfl Try.underlying26 info38 rfl (by decide) (by omega) v331 y330 y342 _ _ _ (fun k_ => some k_ ≠ (.slice (some ad320) x3_1.length co30 : Value).ownBlock) (fun _ => False) rfl rfl ?aO ?aR (fun _ _ h => h) (fun _ h => h.elim) ?aF ?aB ?aS ?aL ?_; (case aR => repeat (first | exact (by repeat (first | (with_reducible exact HR345.out) | (with_reducible refine Kd.C_alloc ?_ _) | (with_reducible refine Kd.C_drewN ?_ _) | (with_reducible refine Kd.C_drew ?_) | exact HR345.out)) | (with_reducible refine Kd.C_alloc ?_ _) | (with_reducible refine Kd.C_drewN ?_ _) | (with_reducible refine Kd.C_drew ?_))); (case aB => exact bl); (case aF => exact (fun k_ hk => Kd.fresh' (Kd.R_lt (rz HO_3.out)) k_ hk)); (case aO => exact (rz HO332.out)); (case aS => exact (below_size bl)); (case aL => have := LMc29.out; omega); intro v347 w35 ho hb hg hat; rw [← Ny346.out] at ho; have n0_ := Aside0.mk (Kd.R_after (ok := (fun _ => True)) (rz HO_3.out) hg hat); have n1_ := Aside0.mk (hb); have n2_ := Aside0.mk ((show Kd.C k38 w35 (some ad320) y322.length y322 from by rw [Ny322.out]; exact Kd.C_take (m := (x5_2 : Int).toNat) ((Kd.R_reads' (Kd.R_after (ok := (fun _ => True)) (rz HO_3.out) hg hat)).2.2) KL31.out)); have n3_ := Aside0.mk ((show Kd.C k38 w35 A34 y342.length y342 from by rw [Ny342.out, KA34.out]; exact Kd.C_drop (m := (x5_2 : Int).toNat) (c := co30) ((Kd.R_reads' (Kd.R_after (ok := (fun _ => True)) (rz HO_3.out) hg hat)).2.2) KL34.out ((Kd.R_reads' (Kd.R_after (ok := (fun _ => True)) (rz HO_3.out) hg hat)).2.1))); have n4_ := Aside0.mk (ho); clear HO_3; clear HB; clear HR325; clear HR345; clear HO332; have HO_3 := n0_; have HB := n1_; have HR325 := n2_; have HR345 := n3_; have HO348 := n4_; clear n0_ n1_ n2_ n3_ n4_; clear ho hb hg hat))
                  repeat (go_quiet (first | ((with_reducible refine gate_builtin (b := .append) (xs := #[.tmp 39, .tmp 42]) rfl ?_); at_builtin; refine Kd.R_append_rows k38 (w0 := w) w.heap.size rfl (.tmp 39) (.tmp 42) 26 38 (.agg #[(.string ⟨#[]⟩), (.string ⟨#[]⟩)]) 32 rfl Try.underlying26 info38 rfl (by decide) (by omega) (.slice none 0 0) ([] : List (S38)) y322 _ _ _ (fun k_ => some k_ ≠ (.slice (some ad320) x3_1.length co30 : Value).ownBlock) (fun _ => False) rfl rfl ?aO ?aR (fun _ _ h => h) (fun _ h => h.elim) ?aF ?aB ?aS ?aL ?_; (case aR => repeat (first | exact (by repeat (first | (with_reducible exact HR325.out) | (with_reducible refine Kd.C_alloc ?_ _) | (with_reducible refine Kd.C_drewN ?_ _) | (with_reducible refine Kd.C_drew ?_) | exact HR325.out)) | (with_reducible refine Kd.C_alloc ?_ _) | (with_reducible refine Kd.C_drewN ?_ _) | (with_reducible refine Kd.C_drew ?_))); (case aB => exact bl); (case aF => exact (fun k_ hk => Kd.fresh' (Kd.R_lt (rz HO_3.out)) k_ hk)); (case aO => exact ((Kd.R_nil _ _ _ _ (fun k_ => some k_ ≠ (.slice (some ad320) x3_1.length co30 : Value).ownBlock)))); (case aS => exact (below_size bl)); (case aL => have := LMc14.out; omega); intro v327 w32 ho hb hg hat; rw [← Ny326.out] at ho; have n0_ := Aside0.mk (Kd.R_after (Kd.R_apart_nil (rz HO_3.out)) hg hat); have n1_ := Aside0.mk (hb); have n2_ := Aside0.mk ((show Kd.C k38 w32 (some ad320) y322.length y322 from by rw [Ny322.out]; exact Kd.C_take (m := (x5_2 : Int).toNat) ((Kd.R_reads' (Kd.R_after (Kd.R_apart_nil (rz HO_3.out)) hg hat)).2.2) KL31.out)); have n3_ := Aside0.mk (ho); clear HO_3; clear HB; clear HR325; have HO_3 := n0_; have HB := n1_; have HR325 := n2_; have HO328 := n3_; clear n0_ n1_ n2_ n3_; clear ho hb hg hat; have p329 : 0 ≤ (x4_1 : Int) := od; have q329 : x4_1 < (l0.length : Int) := od; obtain ⟨ad329, e329, hx329_0, hx329_1⟩ := at_T38 HR0.out x4_1 p329 q329; obtain rfl : ad318 = ad329 := (by injection e329); replace hx329_0 := cu HB.out hx329_0; replace hx329_1 := cu HB.out hx329_1; replace p329 := eq_true p329; replace q329 := eq_true q329) | ((with_reducible refine gate_builtin (b := .append) (xs := #[.tmp 44, .tmp 49]) rfl ?_); at_builtin; refine Kd.R_append k38 (w0 := w) w.heap.size rfl (.tmp 44) (.tmp 49) 26 38 (.agg #[(.string ⟨#[]⟩), (.string ⟨#[]⟩)]) 32 rfl Try.underlying26 info38 rfl (by decide) (by omega) v327 y326 (⟨(rd_T38 l0 x4_1).f0, (rd_T38 l0 x4_1).f1⟩ : S38) [.string ((rd_T38 l0 x4_1).f0), .string ((rd_T38 l0 x4_1).f1)] (fun k_ => some k_ ≠ (.slice (some ad320) x3_1.length co30 : Value).ownBlock) (fun _ => False) rfl rfl ?aP (fun _ hk => hk.elim) ?aF ?aO ?aB ?aS ?aL ?_; (case aP => exact k38_mkM _ _ _ (⟨(rd_T38 l0 x4_1).f0, (rd_T38 l0 x4_1).f1⟩ : S38)); (case aB => exact bl); (case aF => exact (fun k_ hk => Kd.fresh' (Kd.R_lt (rz HO_3.out)) k_ hk)); (case aO => exact (rz HO328.out)); (case aS => exact (below_size bl)); (case aL => have := LMc15.out; omega); intro v331 w33 ho hb hg hat; rw [← Ny330.out] at ho; have n0_ := Aside0.mk (Kd.R_after (ok := (fun _ => True)) (rz HO_3.out) hg hat); have n1_ := Aside0.mk (hb); have n2_ := Aside0.mk ((show Kd.C k38 w33 (some ad320) y322.length y322 from by rw [Ny322.out]; exact Kd.C_take (m := (x5_2 : Int).toNat) ((Kd.R_reads' (Kd.R_after (ok := (fun _ => True)) (rz HO_3.out) hg hat)).2.2) KL31.out)); have n3_ := Aside0.mk (ho); clear HO_3; clear HB; clear HR325; clear HO328; have HO_3 := n0_; have HB := n1_; have HR325 := n2_; have HO332 := n3_; clear n0_ n1_ n2_ n3_; clear ho hb hg hat; have p333 : 0 ≤ (x5_2 : Int) := od; have q333 : x5_2 < (x3_1.length : Int) := od; obtain ⟨ad333, e333, hx333_0, hx333_1⟩ := at_T38 (Kd.R_reads' HO_3.out).2.2 x5_2 p333 q333; obtain rfl : ad320 = ad333 := (by injection e333); replace p333 := eq_true p333; replace q333 := eq_true q333; have p334 : 0 ≤ (x4_1 : Int) := od; have q334 : x4_1 < (l0.length : Int) := od; obtain ⟨ad334, e334, hx334_0, hx334_1⟩ := at_T38 HR0.out x4_1 p334 q334; obtain rfl : ad318 = ad334 := (by injection e334); replace hx334_0 := cu HB.out hx334_0; replace hx334_1 := cu HB.out hx334_1; replace p334 := eq_true p334; replace q334 := eq_true q334; have q34 : (x5_2 : Int) ≤ ((x3_1.length : Int) : Int) := od; obtain ⟨i034, hi034, _, hsz34, _⟩ := info_parts info38; have hroom34 : x3_1.length ≤ co30 := (Kd.R_reads' HO_3.out).2.1; have hC34 : Kd.C k38 _ (some ad320) x3_1.length x3_1 := (Kd.R_reads' HO_3.out).2.2; have q034 : (0 : Int) ≤ (x5_2 : Int) := od; have hcut34 := cut_from (P := Try.prog) 26 38 .i64 Try.underlying26 hi034 2 hsz34 (some ad320) x3_1.length co30 x5_2 q034 q34; have hr34 := Kd.C_drop (m := (x5_2 : Int).toNat) (c := co30) hC34 (by omega) hroom34; obtain ⟨A34, hA34⟩ : ∃ A1, A1 = (if co30 = (x5_2 : Int).toNat then (some ad320) else ((some ad320) : Option Addr).map (·.add ((x5_2 : Int).toNat * 2))) := ⟨_, rfl⟩; obtain ⟨c34, hc34⟩ : ∃ c1, c1 = co30 - (x5_2 : Int).toNat := ⟨_, rfl⟩; have hy34 : y342.length = x3_1.length - (x5_2 : Int).toNat := (by rw [Ny342.out, List.length_drop] <;> omega); rw [show (x3_1).drop (x5_2 : Int).toNat = y342 from Ny342.out.symm] at hr34; replace hr34 : Kd.C k38 _ A34 y342.length y342 := (by rw [hA34]; exact hr34); rw [← hy34, ← hA34, ← hc34] at hcut34; have HR345 := Aside0.mk hr34; have HC345 := Aside0.mk (show y342.length ≤ c34 from by rw [hy34, hc34]; exact Nat.sub_le_sub_right hroom34 _); clear hr34 hC34 hroom34 hi034 hsz34 hc34; have KY34 := Aside0.mk hy34; have KA34 := Aside0.mk hA34; clear hy34 hA34; have KL34 := Aside0.mk (show (x5_2 : Int).toNat ≤ x3_1.length from by omega); replace q34 := eq_true q34) | ((with_reducible refine gate_builtin (b := .append) (xs := #[.tmp 70, .tmp 73]) rfl ?_); at_builtin; refine Kd.R_append_rows k38 (w0 := w) w.heap.size rfl (.tmp 70) (.tmp 73) 26 38 (.agg #[(.string ⟨#[]⟩), (.string ⟨#[]⟩)]) 32 rfl Try.underlying26 info38 rfl (by decide) (by omega) v331 y330 y342 _ _ _ (fun k_ => some k_ ≠ (.slice (some ad320) x3_1.length co30 : Value).ownBlock) (fun _ => False) rfl rfl ?aO ?aR (fun _ _ h => h) (fun _ h => h.elim) ?aF ?aB ?aS ?aL ?_; (case aR => repeat (first | exact (by repeat (first | (with_reducible exact HR345.out) | (with_reducible refine Kd.C_alloc ?_ _) | (with_reducible refine Kd.C_drewN ?_ _) | (with_reducible refine Kd.C_drew ?_) | exact HR345.out)) | (with_reducible refine Kd.C_alloc ?_ _) | (with_reducible refine Kd.C_drewN ?_ _) | (with_reducible refine Kd.C_drew ?_))); (case aB => exact bl); (case aF => exact (fun k_ hk => Kd.fresh' (Kd.R_lt (rz HO_3.out)) k_ hk)); (case aO => exact (rz HO332.out)); (case aS => exact (below_size bl)); (case aL => have := LMc29.out; omega); intro v347 w35 ho hb hg hat; rw [← Ny346.out] at ho; have n0_ := Aside0.mk (Kd.R_after (ok := (fun _ => True)) (rz HO_3.out) hg hat); have n1_ := Aside0.mk (hb); have n2_ := Aside0.mk ((show Kd.C k38 w35 (some ad320) y322.length y322 from by rw [Ny322.out]; exact Kd.C_take (m := (x5_2 : Int).toNat) ((Kd.R_reads' (Kd.R_after (ok := (fun _ => True)) (rz HO_3.out) hg hat)).2.2) KL31.out)); have n3_ := Aside0.mk ((show Kd.C k38 w35 A34 y342.length y342 from by rw [Ny342.out, KA34.out]; exact Kd.C_drop (m := (x5_2 : Int).toNat) (c := co30) ((Kd.R_reads' (Kd.R_after (ok := (fun _ => True)) (rz HO_3.out) hg hat)).2.2) KL34.out ((Kd.R_reads' (Kd.R_after (ok := (fun _ => True)) (rz HO_3.out) hg hat)).2.1))); have n4_ := Aside0.mk (ho); clear HO_3; clear HB; clear HR325; clear HR345; clear HO332; have HO_3 := n0_; have HB := n1_; have HR325 := n2_; have HR345 := n3_; have HO348 := n4_; clear n0_ n1_ n2_ n3_ n4_; clear ho hb hg hat)); try go_wp2_with (first | ((with_reducible refine gate_builtin (b := .append) (xs := #[.tmp 39, .tmp 42]) rfl ?_); at_builtin; refine Kd.R_append_rows k38 (w0 := w) w.heap.size rfl (.tmp 39) (.tmp 42) 26 38 (.agg #[(.string ⟨#[]⟩), (.string ⟨#[]⟩)]) 32 rfl Try.underlying26 info38 rfl (by decide) (by omega) (.slice none 0 0) ([] : List (S38)) y322 _ _ _ (fun k_ => some k_ ≠ (.slice (some ad320) x3_1.length co30 : Value).ownBlock) (fun _ => False) rfl rfl ?aO ?aR (fun _ _ h => h) (fun _ h => h.elim) ?aF ?aB ?aS ?aL ?_; (case aR => repeat (first | exact (by repeat (first | (with_reducible exact HR325.out) | (with_reducible refine Kd.C_alloc ?_ _) | (with_reducible refine Kd.C_drewN ?_ _) | (with_reducible refine Kd.C_drew ?_) | exact HR325.out)) | (with_reducible refine Kd.C_alloc ?_ _) | (with_reducible refine Kd.C_drewN ?_ _) | (with_reducible refine Kd.C_drew ?_))); (case aB => exact bl); (case aF => exact (fun k_ hk => Kd.fresh' (Kd.R_lt (rz HO_3.out)) k_ hk)); (case aO => exact ((Kd.R_nil _ _ _ _ (fun k_ => some k_ ≠ (.slice (some ad320) x3_1.length co30 : Value).ownBlock)))); (case aS => exact (below_size bl)); (case aL => have := LMc14.out; omega); intro v327 w32 ho hb hg hat; rw [← Ny326.out] at ho; have n0_ := Aside0.mk (Kd.R_after (Kd.R_apart_nil (rz HO_3.out)) hg hat); have n1_ := Aside0.mk (hb); have n2_ := Aside0.mk ((show Kd.C k38 w32 (some ad320) y322.length y322 from by rw [Ny322.out]; exact Kd.C_take (m := (x5_2 : Int).toNat) ((Kd.R_reads' (Kd.R_after (Kd.R_apart_nil (rz HO_3.out)) hg hat)).2.2) KL31.out)); have n3_ := Aside0.mk (ho); clear HO_3; clear HB; clear HR325; have HO_3 := n0_; have HB := n1_; have HR325 := n2_; have HO328 := n3_; clear n0_ n1_ n2_ n3_; clear ho hb hg hat; have p329 : 0 ≤ (x4_1 : Int) := od; have q329 : x4_1 < (l0.length : Int) := od; obtain ⟨ad329, e329, hx329_0, hx329_1⟩ := at_T38 HR0.out x4_1 p329 q329; obtain rfl : ad318 = ad329 := (by injection e329); replace hx329_0 := cu HB.out hx329_0; replace hx329_1 := cu HB.out hx329_1; replace p329 := eq_true p329; replace q329 := eq_true q329) | ((with_reducible refine gate_builtin (b := .append) (xs := #[.tmp 44, .tmp 49]) rfl ?_); at_builtin; refine Kd.R_append k38 (w0 := w) w.heap.size rfl (.tmp 44) (.tmp 49) 26 38 (.agg #[(.string ⟨#[]⟩), (.string ⟨#[]⟩)]) 32 rfl Try.underlying26 info38 rfl (by decide) (by omega) v327 y326 (⟨(rd_T38 l0 x4_1).f0, (rd_T38 l0 x4_1).f1⟩ : S38) [.string ((rd_T38 l0 x4_1).f0), .string ((rd_T38 l0 x4_1).f1)] (fun k_ => some k_ ≠ (.slice (some ad320) x3_1.length co30 : Value).ownBlock) (fun _ => False) rfl rfl ?aP (fun _ hk => hk.elim) ?aF ?aO ?aB ?aS ?aL ?_; (case aP => exact k38_mkM _ _ _ (⟨(rd_T38 l0 x4_1).f0, (rd_T38 l0 x4_1).f1⟩ : S38)); (case aB => exact bl); (case aF => exact (fun k_ hk => Kd.fresh' (Kd.R_lt (rz HO_3.out)) k_ hk)); (case aO => exact (rz HO328.out)); (case aS => exact (below_size bl)); (case aL => have := LMc15.out; omega); intro v331 w33 ho hb hg hat; rw [← Ny330.out] at ho; have n0_ := Aside0.mk (Kd.R_after (ok := (fun _ => True)) (rz HO_3.out) hg hat); have n1_ := Aside0.mk (hb); have n2_ := Aside0.mk ((show Kd.C k38 w33 (some ad320) y322.length y322 from by rw [Ny322.out]; exact Kd.C_take (m := (x5_2 : Int).toNat) ((Kd.R_reads' (Kd.R_after (ok := (fun _ => True)) (rz HO_3.out) hg hat)).2.2) KL31.out)); have n3_ := Aside0.mk (ho); clear HO_3; clear HB; clear HR325; clear HO328; have HO_3 := n0_; have HB := n1_; have HR325 := n2_; have HO332 := n3_; clear n0_ n1_ n2_ n3_; clear ho hb hg hat; have p333 : 0 ≤ (x5_2 : Int) := od; have q333 : x5_2 < (x3_1.length : Int) := od; obtain ⟨ad333, e333, hx333_0, hx333_1⟩ := at_T38 (Kd.R_reads' HO_3.out).2.2 x5_2 p333 q333; obtain rfl : ad320 = ad333 := (by injection e333); replace p333 := eq_true p333; replace q333 := eq_true q333; have p334 : 0 ≤ (x4_1 : Int) := od; have q334 : x4_1 < (l0.length : Int) := od; obtain ⟨ad334, e334, hx334_0, hx334_1⟩ := at_T38 HR0.out x4_1 p334 q334; obtain rfl : ad318 = ad334 := (by injection e334); replace hx334_0 := cu HB.out hx334_0; replace hx334_1 := cu HB.out hx334_1; replace p334 := eq_true p334; replace q334 := eq_true q334; have q34 : (x5_2 : Int) ≤ ((x3_1.length : Int) : Int) := od; obtain ⟨i034, hi034, _, hsz34, _⟩ := info_parts info38; have hroom34 : x3_1.length ≤ co30 := (Kd.R_reads' HO_3.out).2.1; have hC34 : Kd.C k38 _ (some ad320) x3_1.length x3_1 := (Kd.R_reads' HO_3.out).2.2; have q034 : (0 : Int) ≤ (x5_2 : Int) := od; have hcut34 := cut_from (P := Try.prog) 26 38 .i64 Try.underlying26 hi034 2 hsz34 (some ad320) x3_1.length co30 x5_2 q034 q34; have hr34 := Kd.C_drop (m := (x5_2 : Int).toNat) (c := co30) hC34 (by omega) hroom34; obtain ⟨A34, hA34⟩ : ∃ A1, A1 = (if co30 = (x5_2 : Int).toNat then (some ad320) else ((some ad320) : Option Addr).map (·.add ((x5_2 : Int).toNat * 2))) := ⟨_, rfl⟩; obtain ⟨c34, hc34⟩ : ∃ c1, c1 = co30 - (x5_2 : Int).toNat := ⟨_, rfl⟩; have hy34 : y342.length = x3_1.length - (x5_2 : Int).toNat := (by rw [Ny342.out, List.length_drop] <;> omega); rw [show (x3_1).drop (x5_2 : Int).toNat = y342 from Ny342.out.symm] at hr34; replace hr34 : Kd.C k38 _ A34 y342.length y342 := (by rw [hA34]; exact hr34); rw [← hy34, ← hA34, ← hc34] at hcut34; have HR345 := Aside0.mk hr34; have HC345 := Aside0.mk (show y342.length ≤ c34 from by rw [hy34, hc34]; exact Nat.sub_le_sub_right hroom34 _); clear hr34 hC34 hroom34 hi034 hsz34 hc34; have KY34 := Aside0.mk hy34; have KA34 := Aside0.mk hA34; clear hy34 hA34; have KL34 := Aside0.mk (show (x5_2 : Int).toNat ≤ x3_1.length from by omega); replace q34 := eq_true q34) | ((with_reducible refine gate_builtin (b := .append) (xs := #[.tmp 70, .tmp 73]) rfl ?_); at_builtin; refine Kd.R_append_rows k38 (w0 := w) w.heap.size rfl (.tmp 70) (.tmp 73) 26 38 (.agg #[(.string ⟨#[]⟩), (.string ⟨#[]⟩)]) 32 rfl Try.underlying26 info38 rfl (by decide) (by omega) v331 y330 y342 _ _ _ (fun k_ => some k_ ≠ (.slice (some ad320) x3_1.length co30 : Value).ownBlock) (fun _ => False) rfl rfl ?aO ?aR (fun _ _ h => h) (fun _ h => h.elim) ?aF ?aB ?aS ?aL ?_; (case aR => repeat (first | exact (by repeat (first | (with_reducible exact HR345.out) | (with_reducible refine Kd.C_alloc ?_ _) | (with_reducible refine Kd.C_drewN ?_ _) | (with_reducible refine Kd.C_drew ?_) | exact HR345.out)) | (with_reducible refine Kd.C_alloc ?_ _) | (with_reducible refine Kd.C_drewN ?_ _) | (with_reducible refine Kd.C_drew ?_))); (case aB => exact bl); (case aF => exact (fun k_ hk => Kd.fresh' (Kd.R_lt (rz HO_3.out)) k_ hk)); (case aO => exact (rz HO332.out)); (case aS => exact (below_size bl)); (case aL => have := LMc29.out; omega); intro v347 w35 ho hb hg hat; rw [← Ny346.out] at ho; have n0_ := Aside0.mk (Kd.R_after (ok := (fun _ => True)) (rz HO_3.out) hg hat); have n1_ := Aside0.mk (hb); have n2_ := Aside0.mk ((show Kd.C k38 w35 (some ad320) y322.length y322 from by rw [Ny322.out]; exact Kd.C_take (m := (x5_2 : Int).toNat) ((Kd.R_reads' (Kd.R_after (ok := (fun _ => True)) (rz HO_3.out) hg hat)).2.2) KL31.out)); have n3_ := Aside0.mk ((show Kd.C k38 w35 A34 y342.length y342 from by rw [Ny342.out, KA34.out]; exact Kd.C_drop (m := (x5_2 : Int).toNat) (c := co30) ((Kd.R_reads' (Kd.R_after (ok := (fun _ => True)) (rz HO_3.out) hg hat)).2.2) KL34.out ((Kd.R_reads' (Kd.R_after (ok := (fun _ => True)) (rz HO_3.out) hg hat)).2.1))); have n4_ := Aside0.mk (ho); clear HO_3; clear HB; clear HR325; clear HR345; clear HO332; have HO_3 := n0_; have HB := n1_; have HR325 := n2_; have HR345 := n3_; have HO348 := n4_; clear n0_ n1_ n2_ n3_ n4_; clear ho hb hg hat)))
                  go_roundg k2
                  case measure => have := HK1.out; have := HK2.out; omega
                  case rel => exact ⟨(y346), (wrap64 (x4_1 + 1)), rs, H', ⟨by have := HK1.out; have := HK2.out; omega⟩, ⟨by (with_reducible repeat (first | apply Kd.R_alloc | apply Kd.R_drewN | apply Kd.R_drew)); exact Kd.R_mono HO348.out (fun _ hk => trivial)⟩, ⟨bl⟩⟩
                 ·rw [if_neg c29] at H
                  exact absurd H (by simp)
               ·rw [if_neg c15] at H
                exact absurd H (by simp)
              ·rw [if_neg c14] at H
               exact absurd H (by simp)
             ·rw [if_neg c13] at H
              exact absurd H (by simp)
           ·rw [if_neg c9] at H
            exact absurd H (by simp)
          ·rw [if_neg c8] at H
           exact absurd H (by simp)
         ·rw [if_neg c7] at H
          exact absurd H (by simp)
        ·rw [if_neg c6] at H
         have c6b0 : decide (x5_2 < (x3_1.length : Int)) = false := decide_eq_false c6
         clear c6
         by_cases c36 : 0 ≤ x5_2
         ·rw [if_pos c36] at H
          have c36b0 := eq_true c36
          have c36b1 : decide (0 ≤ x5_2) = true := decide_eq_true c36
          clear c36
          by_cases c37 : x5_2 ≤ (x3_1.length : Int)
          ·rw [if_pos c37] at H
           have c37b0 := eq_true c37
           have c37b1 : decide (x5_2 ≤ (x3_1.length : Int)) = true := decide_eq_true c37
           clear c37
           obtain ⟨y349, hy349⟩ : ∃ y_ : List (S38), y_ = (x3_1.take (x5_2 : Int).toNat) := ⟨_, rfl⟩
           replace H : (if ([] : List (S38)).length + y349.length < 4398046511104 then ((some (([] : List (S38)) ++ y349 : List (S38))).bind fun y353 => (if 0 ≤ x4_1 then (if x4_1 < (l0.length : Int) then (if y353.length < 4398046511104 then ((some (y353 ++ [(⟨(rd_T38 l0 x4_1).f0, (rd_T38 l0 x4_1).f1⟩ : S38)] : List (S38))).bind fun y357 => ((some (x3_1.drop (x5_2 : Int).toNat : List (S38))).bind fun y360 => (if y357.length + y360.length < 4398046511104 then (archivistref06_Of.l0 k2 l0 (y357 ++ y360) (wrap64 (x4_1 + 1))) else (none)))) else (none)) else (none)) else (none))) else (none)) = some r := by first | (rw [hy349]; with_reducible exact H) | (have H2_ := (Option.bind_some _ _).symm.trans H; rw [hy349]; with_reducible exact H2_) | (have H2_ := (Option.bind_some _ _).symm.trans H; with_reducible exact H2_) | with_reducible exact H | (rw [hy349]; exact H) | exact H
           have Ny349 := Aside0.mk hy349
           clear hy349
           by_cases c38 : ([] : List (S38)).length + y349.length < 4398046511104
           ·rw [if_pos c38] at H
            have LMc38 := Aside0.mk c38
            clear c38
            obtain ⟨y353, hy353⟩ : ∃ y_ : List (S38), y_ = (([] : List (S38)) ++ y349) := ⟨_, rfl⟩
            replace H : (if 0 ≤ x4_1 then (if x4_1 < (l0.length : Int) then (if y353.length < 4398046511104 then ((some (y353 ++ [(⟨(rd_T38 l0 x4_1).f0, (rd_T38 l0 x4_1).f1⟩ : S38)] : List (S38))).bind fun y357 => ((some (x3_1.drop (x5_2 : Int).toNat : List (S38))).bind fun y360 => (if y357.length + y360.length < 4398046511104 then (archivistref06_Of.l0 k2 l0 (y357 ++ y360) (wrap64 (x4_1 + 1))) else (none)))) else (none)) else (none)) else (none)) = some r := by first | (rw [hy353]; with_reducible exact H) | (have H2_ := (Option.bind_some _ _).symm.trans H; rw [hy353]; with_reducible exact H2_) | (have H2_ := (Option.bind_some _ _).symm.trans H; with_reducible exact H2_) | with_reducible exact H | (rw [hy353]; exact H) | exact H
            have Ny353 := Aside0.mk hy353
            clear hy353
            by_cases c39 : 0 ≤ x4_1
            ·rw [if_pos c39] at H
             have c39b0 := decide_eq_true c39
             clear c39
             by_cases c40 : x4_1 < (l0.length : Int)
             ·rw [if_pos c40] at H
              have c40b0 := decide_eq_true c40
              clear c40
              by_cases c41 : y353.length < 4398046511104
              ·rw [if_pos c41] at H
               have LMc41 := Aside0.mk c41
               clear c41
               obtain ⟨y357, hy357⟩ : ∃ y_ : List (S38), y_ = (y353 ++ [(⟨(rd_T38 l0 x4_1).f0, (rd_T38 l0 x4_1).f1⟩ : S38)]) := ⟨_, rfl⟩
               replace H : ((some (x3_1.drop (x5_2 : Int).toNat : List (S38))).bind fun y360 => (if y357.length + y360.length < 4398046511104 then (archivistref06_Of.l0 k2 l0 (y357 ++ y360) (wrap64 (x4_1 + 1))) else (none))) = some r := by first | (rw [hy357]; with_reducible exact H) | (have H2_ := (Option.bind_some _ _).symm.trans H; rw [hy357]; with_reducible exact H2_) | (have H2_ := (Option.bind_some _ _).symm.trans H; with_reducible exact H2_) | with_reducible exact H | (rw [hy357]; exact H) | exact H
               have Ny357 := Aside0.mk hy357
               clear hy357
               have c42b0 := eq_true (od : 0 ≤ x5_2)
               have c43b0 := eq_true (od : x5_2 ≤ (x3_1.length : Int))
               obtain ⟨y360, hy360⟩ : ∃ y_ : List (S38), y_ = (x3_1.drop (x5_2 : Int).toNat) := ⟨_, rfl⟩
               replace H : (if y357.length + y360.length < 4398046511104 then (archivistref06_Of.l0 k2 l0 (y357 ++ y360) (wrap64 (x4_1 + 1))) else (none)) = some r := by first | (rw [hy360]; with_reducible exact H) | (have H2_ := (Option.bind_some _ _).symm.trans H; rw [hy360]; with_reducible exact H2_) | (have H2_ := (Option.bind_some _ _).symm.trans H; with_reducible exact H2_) | with_reducible exact H | (rw [hy360]; exact H) | exact H
               have Ny360 := Aside0.mk hy360
               clear hy360
               by_cases c44 : y357.length + y360.length < 4398046511104
               ·rw [if_pos c44] at H
                have LMc44 := Aside0.mk c44
                clear c44
                obtain ⟨y364, hy364⟩ : ∃ y_ : List (S38), y_ = (y357 ++ y360) := ⟨_, rfl⟩
                replace H : (archivistref06_Of.l0 k2 l0 y364 (wrap64 (x4_1 + 1))) = some r := by first | (rw [hy364]; with_reducible exact H) | (have H2_ := (Option.bind_some _ _).symm.trans H; rw [hy364]; with_reducible exact H2_) | (have H2_ := (Option.bind_some _ _).symm.trans H; with_reducible exact H2_) | with_reducible exact H | (rw [hy364]; exact H) | exact H
                have Ny364 := Aside0.mk hy364
                clear hy364
                have H' := Aside0.mk H
                clear H
                obtain ⟨Ao45, co45, eo45⟩ := Kd.R_slice HO_3.out
                subst eo45
                have q46 : (x5_2 : Int) ≤ ((x3_1.length : Int) : Int) := od
                obtain ⟨i046, hi046, _, hsz46, _⟩ := info_parts info38
                have hroom46 : x3_1.length ≤ co45 := (Kd.R_reads' HO_3.out).2.1
                have hC46 : Kd.C k38 _ Ao45 x3_1.length x3_1 := (Kd.R_reads' HO_3.out).2.2
                have hcut46 := cut_to (P := Try.prog) 26 38 .i64 Try.underlying26 hi046 Ao45 x3_1.length co45 x5_2 (od) q46 hroom46
                have hr46 := Kd.C_take (m := (x5_2 : Int).toNat) hC46 (by omega)
                have hy46 : y349.length = (x5_2 : Int).toNat := (by rw [Ny349.out, List.length_take]; omega)
                rw [← Ny349.out] at hr46
                rw [← hy46] at hcut46
                have HR352 := Aside0.mk hr46
                have HC352 := Aside0.mk (show y349.length ≤ co45 from by omega)
                clear hr46 hC46 hroom46 hi046 hsz46
                have KY46 := Aside0.mk hy46
                clear hy46
                have KL46 := Aside0.mk (show (x5_2 : Int).toNat ≤ x3_1.length from by omega)
                replace q46 := eq_true q46
                go_wp2_with (first | ((with_reducible refine gate_builtin (b := .append) (xs := #[.tmp 39, .tmp 42]) rfl ?_); at_builtin; refine Kd.R_append_rows k38 (w0 := w) w.heap.size rfl (.tmp 39) (.tmp 42) 26 38 (.agg #[(.string ⟨#[]⟩), (.string ⟨#[]⟩)]) 32 rfl Try.underlying26 info38 rfl (by decide) (by omega) (.slice none 0 0) ([] : List (S38)) y349 _ _ _ (fun k_ => some k_ ≠ (.slice Ao45 x3_1.length co45 : Value).ownBlock) (fun _ => False) rfl rfl ?aO ?aR (fun _ _ h => h) (fun _ h => h.elim) ?aF ?aB ?aS ?aL ?_; (case aR => repeat (first | exact (by repeat (first | (with_reducible exact HR352.out) | (with_reducible refine Kd.C_alloc ?_ _) | (with_reducible refine Kd.C_drewN ?_ _) | (with_reducible refine Kd.C_drew ?_) | exact HR352.out)) | (with_reducible refine Kd.C_alloc ?_ _) | (with_reducible refine Kd.C_drewN ?_ _) | (with_reducible refine Kd.C_drew ?_))); (case aB => exact bl); (case aF => exact (fun k_ hk => Kd.fresh' (Kd.R_lt (rz HO_3.out)) k_ hk)); (case aO => exact ((Kd.R_nil _ _ _ _ (fun k_ => some k_ ≠ (.slice Ao45 x3_1.length co45 : Value).ownBlock)))); (case aS => exact (below_size bl)); (case aL => have := LMc38.out; omega); intro v354 w47 ho hb hg hat; rw [← Ny353.out] at ho; have n0_ := Aside0.mk (Kd.R_after (Kd.R_apart_nil (rz HO_3.out)) hg hat); have n1_ := Aside0.mk (hb); have n2_ := Aside0.mk ((show Kd.C k38 w47 Ao45 y349.length y349 from by rw [Ny349.out]; exact Kd.C_take (m := (x5_2 : Int).toNat) ((Kd.R_reads' (Kd.R_after (Kd.R_apart_nil (rz HO_3.out)) hg hat)).2.2) KL46.out)); have n3_ := Aside0.mk (ho); clear HO_3; clear HB; clear HR352; have HO_3 := n0_; have HB := n1_; have HR352 := n2_; have HO355 := n3_; clear n0_ n1_ n2_ n3_; clear ho hb hg hat; have p356 : 0 ≤ (x4_1 : Int) := od; have q356 : x4_1 < (l0.length : Int) := od; obtain ⟨ad356, e356, hx356_0, hx356_1⟩ := at_T38 HR0.out x4_1 p356 q356; obtain rfl : ad318 = ad356 := (by injection e356); replace hx356_0 := cu HB.out hx356_0; replace hx356_1 := cu HB.out hx356_1; replace p356 := eq_true p356; replace q356 := eq_true q356) | ((with_reducible refine gate_builtin (b := .append) (xs := #[.tmp 44, .tmp 49]) rfl ?_); at_builtin; refine Kd.R_append k38 (w0 := w) w.heap.size rfl (.tmp 44) (.tmp 49) 26 38 (.agg #[(.string ⟨#[]⟩), (.string ⟨#[]⟩)]) 32 rfl Try.underlying26 info38 rfl (by decide) (by omega) v354 y353 (⟨(rd_T38 l0 x4_1).f0, (rd_T38 l0 x4_1).f1⟩ : S38) [.string ((rd_T38 l0 x4_1).f0), .string ((rd_T38 l0 x4_1).f1)] (fun k_ => some k_ ≠ (.slice Ao45 x3_1.length co45 : Value).ownBlock) (fun _ => False) rfl rfl ?aP (fun _ hk => hk.elim) ?aF ?aO ?aB ?aS ?aL ?_; (case aP => exact k38_mkM _ _ _ (⟨(rd_T38 l0 x4_1).f0, (rd_T38 l0 x4_1).f1⟩ : S38)); (case aB => exact bl); (case aF => exact (fun k_ hk => Kd.fresh' (Kd.R_lt (rz HO_3.out)) k_ hk)); (case aO => exact (rz HO355.out)); (case aS => exact (below_size bl)); (case aL => have := LMc41.out; omega); intro v358 w48 ho hb hg hat; rw [← Ny357.out] at ho; have n0_ := Aside0.mk (Kd.R_after (ok := (fun _ => True)) (rz HO_3.out) hg hat); have n1_ := Aside0.mk (hb); have n2_ := Aside0.mk ((show Kd.C k38 w48 Ao45 y349.length y349 from by rw [Ny349.out]; exact Kd.C_take (m := (x5_2 : Int).toNat) ((Kd.R_reads' (Kd.R_after (ok := (fun _ => True)) (rz HO_3.out) hg hat)).2.2) KL46.out)); have n3_ := Aside0.mk (ho); clear HO_3; clear HB; clear HR352; clear HO355; have HO_3 := n0_; have HB := n1_; have HR352 := n2_; have HO359 := n3_; clear n0_ n1_ n2_ n3_; clear ho hb hg hat; have q49 : (x5_2 : Int) ≤ ((x3_1.length : Int) : Int) := od; obtain ⟨i049, hi049, _, hsz49, _⟩ := info_parts info38; have hroom49 : x3_1.length ≤ co45 := (Kd.R_reads' HO_3.out).2.1; have hC49 : Kd.C k38 _ Ao45 x3_1.length x3_1 := (Kd.R_reads' HO_3.out).2.2; have q049 : (0 : Int) ≤ (x5_2 : Int) := od; have hcut49 := cut_from (P := Try.prog) 26 38 .i64 Try.underlying26 hi049 2 hsz49 Ao45 x3_1.length co45 x5_2 q049 q49; have hr49 := Kd.C_drop (m := (x5_2 : Int).toNat) (c := co45) hC49 (by omega) hroom49; obtain ⟨A49, hA49⟩ : ∃ A1, A1 = (if co45 = (x5_2 : Int).toNat then Ao45 else (Ao45 : Option Addr).map (·.add ((x5_2 : Int).toNat * 2))) := ⟨_, rfl⟩; obtain ⟨c49, hc49⟩ : ∃ c1, c1 = co45 - (x5_2 : Int).toNat := ⟨_, rfl⟩; have hy49 : y360.length = x3_1.length - (x5_2 : Int).toNat := (by rw [Ny360.out, List.length_drop] <;> omega); rw [show (x3_1).drop (x5_2 : Int).toNat = y360 from Ny360.out.symm] at hr49; replace hr49 : Kd.C k38 _ A49 y360.length y360 := (by rw [hA49]; exact hr49); rw [← hy49, ← hA49, ← hc49] at hcut49; have HR363 := Aside0.mk hr49; have HC363 := Aside0.mk (show y360.length ≤ c49 from by rw [hy49, hc49]; exact Nat.sub_le_sub_right hroom49 _); clear hr49 hC49 hroom49 hi049 hsz49 hc49; have KY49 := Aside0.mk hy49; have KA49 := Aside0.mk hA49; clear hy49 hA49; have KL49 := Aside0.mk (show (x5_2 : Int).toNat ≤ x3_1.length from by omega); replace q49 := eq_true q49) | ((with_reducible refine gate_builtin (b := .append) (xs := #[.tmp 70, .tmp 73]) rfl ?_); at_builtin; refine Kd.R_append_rows k38 (w0 := w) w.heap.size rfl (.tmp 70) (.tmp 73) 26 38 (.agg #[(.string ⟨#[]⟩), (.string ⟨#[]⟩)]) 32 rfl Try.underlying26 info38 rfl (by decide) (by omega) v358 y357 y360 _ _ _ (fun k_ => some k_ ≠ (.slice Ao45 x3_1.length co45 : Value).ownBlock) (fun _ => False) rfl rfl ?aO ?aR (fun _ _ h => h) (fun _ h => h.elim) ?aF ?aB ?aS ?aL ?_; (case aR => repeat (first | exact (by repeat (first | (with_reducible exact HR363.out) | (with_reducible refine Kd.C_alloc ?_ _) | (with_reducible refine Kd.C_drewN ?_ _) | (with_reducible refine Kd.C_drew ?_) | exact HR363.out)) | (with_reducible refine Kd.C_alloc ?_ _) | (with_reducible refine Kd.C_drewN ?_ _) | (with_reducible refine Kd.C_drew ?_))); (case aB => exact bl); (case aF => exact (fun k_ hk => Kd.fresh' (Kd.R_lt (rz HO_3.out)) k_ hk)); (case aO => exact (rz HO359.out)); (case aS => exact (below_size bl)); (case aL => have := LMc44.out; omega); intro v365 w50 ho hb hg hat; rw [← Ny364.out] at ho; have n0_ := Aside0.mk (Kd.R_after (ok := (fun _ => True)) (rz HO_3.out) hg hat); have n1_ := Aside0.mk (hb); have n2_ := Aside0.mk ((show Kd.C k38 w50 Ao45 y349.length y349 from by rw [Ny349.out]; exact Kd.C_take (m := (x5_2 : Int).toNat) ((Kd.R_reads' (Kd.R_after (ok := (fun _ => True)) (rz HO_3.out) hg hat)).2.2) KL46.out)); have n3_ := Aside0.mk ((show Kd.C k38 w50 A49 y360.length y360 from by rw [Ny360.out, KA49.out]; exact Kd.C_drop (m := (x5_2 : Int).toNat) (c := co45) ((Kd.R_reads' (Kd.R_after (ok := (fun _ => True)) (rz HO_3.out) hg hat)).2.2) KL49.out ((Kd.R_reads' (Kd.R_after (ok := (fun _ => True)) (rz HO_3.out) hg hat)).2.1))); have n4_ := Aside0.mk (ho); clear HO_3; clear HB; clear HR352; clear HR363; clear HO359; have HO_3 := n0_; have HB := n1_; have HR352 := n2_; have HR363 := n3_; have HO366 := n4_; clear n0_ n1_ n2_ n3_ n4_; clear ho hb hg hat))
                repeat (go_quiet (first | ((with_reducible refine gate_builtin (b := .append) (xs := #[.tmp 39, .tmp 42]) rfl ?_); at_builtin; refine Kd.R_append_rows k38 (w0 := w) w.heap.size rfl (.tmp 39) (.tmp 42) 26 38 (.agg #[(.string ⟨#[]⟩), (.string ⟨#[]⟩)]) 32 rfl Try.underlying26 info38 rfl (by decide) (by omega) (.slice none 0 0) ([] : List (S38)) y349 _ _ _ (fun k_ => some k_ ≠ (.slice Ao45 x3_1.length co45 : Value).ownBlock) (fun _ => False) rfl rfl ?aO ?aR (fun _ _ h => h) (fun _ h => h.elim) ?aF ?aB ?aS ?aL ?_; (case aR => repeat (first | exact (by repeat (first | (with_reducible exact HR352.out) | (with_reducible refine Kd.C_alloc ?_ _) | (with_reducible refine Kd.C_drewN ?_ _) | (with_reducible refine Kd.C_drew ?_) | exact HR352.out)) | (with_reducible refine Kd.C_alloc ?_ _) | (with_reducible refine Kd.C_drewN ?_ _) | (with_reducible refine Kd.C_drew ?_))); (case aB => exact bl); (case aF => exact (fun k_ hk => Kd.fresh' (Kd.R_lt (rz HO_3.out)) k_ hk)); (case aO => exact ((Kd.R_nil _ _ _ _ (fun k_ => some k_ ≠ (.slice Ao45 x3_1.length co45 : Value).ownBlock)))); (case aS => exact (below_size bl)); (case aL => have := LMc38.out; omega); intro v354 w47 ho hb hg hat; rw [← Ny353.out] at ho; have n0_ := Aside0.mk (Kd.R_after (Kd.R_apart_nil (rz HO_3.out)) hg hat); have n1_ := Aside0.mk (hb); have n2_ := Aside0.mk ((show Kd.C k38 w47 Ao45 y349.length y349 from by rw [Ny349.out]; exact Kd.C_take (m := (x5_2 : Int).toNat) ((Kd.R_reads' (Kd.R_after (Kd.R_apart_nil (rz HO_3.out)) hg hat)).2.2) KL46.out)); have n3_ := Aside0.mk (ho); clear HO_3; clear HB; clear HR352; have HO_3 := n0_; have HB := n1_; have HR352 := n2_; have HO355 := n3_; clear n0_ n1_ n2_ n3_; clear ho hb hg hat; have p356 : 0 ≤ (x4_1 : Int) := od; have q356 : x4_1 < (l0.length : Int) := od; obtain ⟨ad356, e356, hx356_0, hx356_1⟩ := at_T38 HR0.out x4_1 p356 q356; obtain rfl : ad318 = ad356 := (by injection e356); replace hx356_0 := cu HB.out hx356_0; replace hx356_1 := cu HB.out hx356_1; replace p356 := eq_true p356; replace q356 := eq_true q356) | ((with_reducible refine gate_builtin (b := .append) (xs := #[.tmp 44, .tmp 49]) rfl ?_); at_builtin; refine Kd.R_append k38 (w0 := w) w.heap.size rfl (.tmp 44) (.tmp 49) 26 38 (.agg #[(.string ⟨#[]⟩), (.string ⟨#[]⟩)]) 32 rfl Try.underlying26 info38 rfl (by decide) (by omega) v354 y353 (⟨(rd_T38 l0 x4_1).f0, (rd_T38 l0 x4_1).f1⟩ : S38) [.string ((rd_T38 l0 x4_1).f0), .string ((rd_T38 l0 x4_1).f1)] (fun k_ => some k_ ≠ (.slice Ao45 x3_1.length co45 : Value).ownBlock) (fun _ => False) rfl rfl ?aP (fun _ hk => hk.elim) ?aF ?aO ?aB ?aS ?aL ?_; (case aP => exact k38_mkM _ _ _ (⟨(rd_T38 l0 x4_1).f0, (rd_T38 l0 x4_1).f1⟩ : S38)); (case aB => exact bl); (case aF => exact (fun k_ hk => Kd.fresh' (Kd.R_lt (rz HO_3.out)) k_ hk)); (case aO => exact (rz HO355.out)); (case aS => exact (below_size bl)); (case aL => have := LMc41.out; omega); intro v358 w48 ho hb hg hat; rw [← Ny357.out] at ho; have n0_ := Aside0.mk (Kd.R_after (ok := (fun _ => True)) (rz HO_3.out) hg hat); have n1_ := Aside0.mk (hb); have n2_ := Aside0.mk ((show Kd.C k38 w48 Ao45 y349.length y349 from by rw [Ny349.out]; exact Kd.C_take (m := (x5_2 : Int).toNat) ((Kd.R_reads' (Kd.R_after (ok := (fun _ => True)) (rz HO_3.out) hg hat)).2.2) KL46.out)); have n3_ := Aside0.mk (ho); clear HO_3; clear HB; clear HR352; clear HO355; have HO_3 := n0_; have HB := n1_; have HR352 := n2_; have HO359 := n3_; clear n0_ n1_ n2_ n3_; clear ho hb hg hat; have q49 : (x5_2 : Int) ≤ ((x3_1.length : Int) : Int) := od; obtain ⟨i049, hi049, _, hsz49, _⟩ := info_parts info38; have hroom49 : x3_1.length ≤ co45 := (Kd.R_reads' HO_3.out).2.1; have hC49 : Kd.C k38 _ Ao45 x3_1.length x3_1 := (Kd.R_reads' HO_3.out).2.2; have q049 : (0 : Int) ≤ (x5_2 : Int) := od; have hcut49 := cut_from (P := Try.prog) 26 38 .i64 Try.underlying26 hi049 2 hsz49 Ao45 x3_1.length co45 x5_2 q049 q49; have hr49 := Kd.C_drop (m := (x5_2 : Int).toNat) (c := co45) hC49 (by omega) hroom49; obtain ⟨A49, hA49⟩ : ∃ A1, A1 = (if co45 = (x5_2 : Int).toNat then Ao45 else (Ao45 : Option Addr).map (·.add ((x5_2 : Int).toNat * 2))) := ⟨_, rfl⟩; obtain ⟨c49, hc49⟩ : ∃ c1, c1 = co45 - (x5_2 : Int).toNat := ⟨_, rfl⟩; have hy49 : y360.length = x3_1.length - (x5_2 : Int).toNat := (by rw [Ny360.out, List.length_drop] <;> omega); rw [show (x3_1).drop (x5_2 : Int).toNat = y360 from Ny360.out.symm] at hr49; replace hr49 : Kd.C k38 _ A49 y360.length y360 := (by rw [hA49]; exact hr49); rw [← hy49, ← hA49, ← hc49] at hcut49; have HR363 := Aside0.mk hr49; have HC363 := Aside0.mk (show y360.length ≤ c49 from by rw [hy49, hc49]; exact Nat.sub_le_sub_right hroom49 _); clear hr49 hC49 hroom49 hi049 hsz49 hc49; have KY49 := Aside0.mk hy49; have KA49 := Aside0.mk hA49; clear hy49 hA49; have KL49 := Aside0.mk (show (x5_2 : Int).toNat ≤ x3_1.length from by omega); replace q49 := eq_true q49) | ((with_reducible refine gate_builtin (b := .append) (xs := #[.tmp 70, .tmp 73]) rfl ?_); at_builtin; refine Kd.R_append_rows k38 (w0 := w) w.heap.size rfl (.tmp 70) (.tmp 73) 26 38 (.agg #[(.string ⟨#[]⟩), (.string ⟨#[]⟩)]) 32 rfl Try.underlying26 info38 rfl (by decide) (by omega) v358 y357 y360 _ _ _ (fun k_ => some k_ ≠ (.slice Ao45 x3_1.length co45 : Value).ownBlock) (fun _ => False) rfl rfl ?aO ?aR (fun _ _ h => h) (fun _ h => h.elim) ?aF ?aB ?aS ?aL ?_; (case aR => repeat (first | exact (by repeat (first | (with_reducible exact HR363.out) | (with_reducible refine Kd.C_alloc ?_ _) | (with_reducible refine Kd.C_drewN ?_ _) | (with_reducible refine Kd.C_drew ?_) | exact HR363.out)) | (with_reducible refine Kd.C_alloc ?_ _) | (with_reducible refine Kd.C_drewN ?_ _) | (with_reducible refine Kd.C_drew ?_))); (case aB => exact bl); (case aF => exact (fun k_ hk => Kd.fresh' (Kd.R_lt (rz HO_3.out)) k_ hk)); (case aO => exact (rz HO359.out)); (case aS => exact (below_size bl)); (case aL => have := LMc44.out; omega); intro v365 w50 ho hb hg hat; rw [← Ny364.out] at ho; have n0_ := Aside0.mk (Kd.R_after (ok := (fun _ => True)) (rz HO_3.out) hg hat); have n1_ := Aside0.mk (hb); have n2_ := Aside0.mk ((show Kd.C k38 w50 Ao45 y349.length y349 from by rw [Ny349.out]; exact Kd.C_take (m := (x5_2 : Int).toNat) ((Kd.R_reads' (Kd.R_after (ok := (fun _ => True)) (rz HO_3.out) hg hat)).2.2) KL46.out)); have n3_ := Aside0.mk ((show Kd.C k38 w50 A49 y360.length y360 from by rw [Ny360.out, KA49.out]; exact Kd.C_drop (m := (x5_2 : Int).toNat) (c := co45) ((Kd.R_reads' (Kd.R_after (ok := (fun _ => True)) (rz HO_3.out) hg hat)).2.2) KL49.out ((Kd.R_reads' (Kd.R_after (ok := (fun _ => True)) (rz HO_3.out) hg hat)).2.1))); have n4_ := Aside0.mk (ho); clear HO_3; clear HB; clear HR352; clear HR363; clear HO359; have HO_3 := n0_; have HB := n1_; have HR352 := n2_; have HR363 := n3_; have HO366 := n4_; clear n0_ n1_ n2_ n3_ n4_; clear ho hb hg hat)); try go_wp2_with (first | ((with_reducible refine gate_builtin (b := .append) (xs := #[.tmp 39, .tmp 42]) rfl ?_); at_builtin; refine Kd.R_append_rows k38 (w0 := w) w.heap.size rfl (.tmp 39) (.tmp 42) 26 38 (.agg #[(.string ⟨#[]⟩), (.string ⟨#[]⟩)]) 32 rfl Try.underlying26 info38 rfl (by decide) (by omega) (.slice none 0 0) ([] : List (S38)) y349 _ _ _ (fun k_ => some k_ ≠ (.slice Ao45 x3_1.length co45 : Value).ownBlock) (fun _ => False) rfl rfl ?aO ?aR (fun _ _ h => h) (fun _ h => h.elim) ?aF ?aB ?aS ?aL ?_; (case aR => repeat (first | exact (by repeat (first | (with_reducible exact HR352.out) | (with_reducible refine Kd.C_alloc ?_ _) | (with_reducible refine Kd.C_drewN ?_ _) | (with_reducible refine Kd.C_drew ?_) | exact HR352.out)) | (with_reducible refine Kd.C_alloc ?_ _) | (with_reducible refine Kd.C_drewN ?_ _) | (with_reducible refine Kd.C_drew ?_))); (case aB => exact bl); (case aF => exact (fun k_ hk => Kd.fresh' (Kd.R_lt (rz HO_3.out)) k_ hk)); (case aO => exact ((Kd.R_nil _ _ _ _ (fun k_ => some k_ ≠ (.slice Ao45 x3_1.length co45 : Value).ownBlock)))); (case aS => exact (below_size bl)); (case aL => have := LMc38.out; omega); intro v354 w47 ho hb hg hat; rw [← Ny353.out] at ho; have n0_ := Aside0.mk (Kd.R_after (Kd.R_apart_nil (rz HO_3.out)) hg hat); have n1_ := Aside0.mk (hb); have n2_ := Aside0.mk ((show Kd.C k38 w47 Ao45 y349.length y349 from by rw [Ny349.out]; exact Kd.C_take (m := (x5_2 : Int).toNat) ((Kd.R_reads' (Kd.R_after (Kd.R_apart_nil (rz HO_3.out)) hg hat)).2.2) KL46.out)); have n3_ := Aside0.mk (ho); clear HO_3; clear HB; clear HR352; have HO_3 := n0_; have HB := n1_; have HR352 := n2_; have HO355 := n3_; clear n0_ n1_ n2_ n3_; clear ho hb hg hat; have p356 : 0 ≤ (x4_1 : Int) := od; have q356 : x4_1 < (l0.length : Int) := od; obtain ⟨ad356, e356, hx356_0, hx356_1⟩ := at_T38 HR0.out x4_1 p356 q356; obtain rfl : ad318 = ad356 := (by injection e356); replace hx356_0 := cu HB.out hx356_0; replace hx356_1 := cu HB.out hx356_1; replace p356 := eq_true p356; replace q356 := eq_true q356) | ((with_reducible refine gate_builtin (b := .append) (xs := #[.tmp 44, .tmp 49]) rfl ?_); at_builtin; refine Kd.R_append k38 (w0 := w) w.heap.size rfl (.tmp 44) (.tmp 49) 26 38 (.agg #[(.string ⟨#[]⟩), (.string ⟨#[]⟩)]) 32 rfl Try.underlying26 info38 rfl (by decide) (by omega) v354 y353 (⟨(rd_T38 l0 x4_1).f0, (rd_T38 l0 x4_1).f1⟩ : S38) [.string ((rd_T38 l0 x4_1).f0), .string ((rd_T38 l0 x4_1).f1)] (fun k_ => some k_ ≠ (.slice Ao45 x3_1.length co45 : Value).ownBlock) (fun _ => False) rfl rfl ?aP (fun _ hk => hk.elim) ?aF ?aO ?aB ?aS ?aL ?_; (case aP => exact k38_mkM _ _ _ (⟨(rd_T38 l0 x4_1).f0, (rd_T38 l0 x4_1).f1⟩ : S38)); (case aB => exact bl); (case aF => exact (fun k_ hk => Kd.fresh' (Kd.R_lt (rz HO_3.out)) k_ hk)); (case aO => exact (rz HO355.out)); (case aS => exact (below_size bl)); (case aL => have := LMc41.out; omega); intro v358 w48 ho hb hg hat; rw [← Ny357.out] at ho; have n0_ := Aside0.mk (Kd.R_after (ok := (fun _ => True)) (rz HO_3.out) hg hat); have n1_ := Aside0.mk (hb); have n2_ := Aside0.mk ((show Kd.C k38 w48 Ao45 y349.length y349 from by rw [Ny349.out]; exact Kd.C_take (m := (x5_2 : Int).toNat) ((Kd.R_reads' (Kd.R_after (ok := (fun _ => True)) (rz HO_3.out) hg hat)).2.2) KL46.out)); have n3_ := Aside0.mk (ho); clear HO_3; clear HB; clear HR352; clear HO355; have HO_3 := n0_; have HB := n1_; have HR352 := n2_; have HO359 := n3_; clear n0_ n1_ n2_ n3_; clear ho hb hg hat; have q49 : (x5_2 : Int) ≤ ((x3_1.length : Int) : Int) := od; obtain ⟨i049, hi049, _, hsz49, _⟩ := info_parts info38; have hroom49 : x3_1.length ≤ co45 := (Kd.R_reads' HO_3.out).2.1; have hC49 : Kd.C k38 _ Ao45 x3_1.length x3_1 := (Kd.R_reads' HO_3.out).2.2; have q049 : (0 : Int) ≤ (x5_2 : Int) := od; have hcut49 := cut_from (P := Try.prog) 26 38 .i64 Try.underlying26 hi049 2 hsz49 Ao45 x3_1.length co45 x5_2 q049 q49; have hr49 := Kd.C_drop (m := (x5_2 : Int).toNat) (c := co45) hC49 (by omega) hroom49; obtain ⟨A49, hA49⟩ : ∃ A1, A1 = (if co45 = (x5_2 : Int).toNat then Ao45 else (Ao45 : Option Addr).map (·.add ((x5_2 : Int).toNat * 2))) := ⟨_, rfl⟩; obtain ⟨c49, hc49⟩ : ∃ c1, c1 = co45 - (x5_2 : Int).toNat := ⟨_, rfl⟩; have hy49 : y360.length = x3_1.length - (x5_2 : Int).toNat := (by rw [Ny360.out, List.length_drop] <;> omega); rw [show (x3_1).drop (x5_2 : Int).toNat = y360 from Ny360.out.symm] at hr49; replace hr49 : Kd.C k38 _ A49 y360.length y360 := (by rw [hA49]; exact hr49); rw [← hy49, ← hA49, ← hc49] at hcut49; have HR363 := Aside0.mk hr49; have HC363 := Aside0.mk (show y360.length ≤ c49 from by rw [hy49, hc49]; exact Nat.sub_le_sub_right hroom49 _); clear hr49 hC49 hroom49 hi049 hsz49 hc49; have KY49 := Aside0.mk hy49; have KA49 := Aside0.mk hA49; clear hy49 hA49; have KL49 := Aside0.mk (show (x5_2 : Int).toNat ≤ x3_1.length from by omega); replace q49 := eq_true q49) | ((with_reducible refine gate_builtin (b := .append) (xs := #[.tmp 70, .tmp 73]) rfl ?_); at_builtin; refine Kd.R_append_rows k38 (w0 := w) w.heap.size rfl (.tmp 70) (.tmp 73) 26 38 (.agg #[(.string ⟨#[]⟩), (.string ⟨#[]⟩)]) 32 rfl Try.underlying26 info38 rfl (by decide) (by omega) v358 y357 y360 _ _ _ (fun k_ => some k_ ≠ (.slice Ao45 x3_1.length co45 : Value).ownBlock) (fun _ => False) rfl rfl ?aO ?aR (fun _ _ h => h) (fun _ h => h.elim) ?aF ?aB ?aS ?aL ?_; (case aR => repeat (first | exact (by repeat (first | (with_reducible exact HR363.out) | (with_reducible refine Kd.C_alloc ?_ _) | (with_reducible refine Kd.C_drewN ?_ _) | (with_reducible refine Kd.C_drew ?_) | exact HR363.out)) | (with_reducible refine Kd.C_alloc ?_ _) | (with_reducible refine Kd.C_drewN ?_ _) | (with_reducible refine Kd.C_drew ?_))); (case aB => exact bl); (case aF => exact (fun k_ hk => Kd.fresh' (Kd.R_lt (rz HO_3.out)) k_ hk)); (case aO => exact (rz HO359.out)); (case aS => exact (below_size bl)); (case aL => have := LMc44.out; omega); intro v365 w50 ho hb hg hat; rw [← Ny364.out] at ho; have n0_ := Aside0.mk (Kd.R_after (ok := (fun _ => True)) (rz HO_3.out) hg hat); have n1_ := Aside0.mk (hb); have n2_ := Aside0.mk ((show Kd.C k38 w50 Ao45 y349.length y349 from by rw [Ny349.out]; exact Kd.C_take (m := (x5_2 : Int).toNat) ((Kd.R_reads' (Kd.R_after (ok := (fun _ => True)) (rz HO_3.out) hg hat)).2.2) KL46.out)); have n3_ := Aside0.mk ((show Kd.C k38 w50 A49 y360.length y360 from by rw [Ny360.out, KA49.out]; exact Kd.C_drop (m := (x5_2 : Int).toNat) (c := co45) ((Kd.R_reads' (Kd.R_after (ok := (fun _ => True)) (rz HO_3.out) hg hat)).2.2) KL49.out ((Kd.R_reads' (Kd.R_after (ok := (fun _ => True)) (rz HO_3.out) hg hat)).2.1))); have n4_ := Aside0.mk (ho); clear HO_3; clear HB; clear HR352; clear HR363; clear HO359; have HO_3 := n0_; have HB := n1_; have HR352 := n2_; have HR363 := n3_; have HO366 := n4_; clear n0_ n1_ n2_ n3_ n4_; clear ho hb hg hat)))
                go_roundg k2
                case measure => have := HK1.out; have := HK2.out; omega
                case rel => exact ⟨(y364), (wrap64 (x4_1 + 1)), rs, H', ⟨by have := HK1.out; have := HK2.out; omega⟩, ⟨by (with_reducible repeat (first | apply Kd.R_alloc | apply Kd.R_drewN | apply Kd.R_drew)); exact Kd.R_mono HO366.out (fun _ hk => trivial)⟩, ⟨bl⟩⟩
               ·rw [if_neg c44] at H
                exact absurd H (by simp)
              ·rw [if_neg c41] at H
               exact absurd H (by simp)
             ·rw [if_neg c40] at H
              exact absurd H (by simp)
            ·rw [if_neg c39] at H
             exact absurd H (by simp)
           ·rw [if_neg c38] at H
            exact absurd H (by simp)
          ·rw [if_neg c37] at H
           exact absurd H (by simp)
         ·rw [if_neg c36] at H
          exact absurd H (by simp)
     ·replace c5 := Bool.eq_false_iff.mpr c5
      subst c5
      have H1 : (archivistref06_Of.l0 k1 l0 x3_1 (wrap64 (x4_1 + 1))) = some r := by rw [if_neg (show ¬ (false = true) by decide)] at H; exact H
      clear H
      have H := H1
      clear H1
      have H' := Aside0.mk H
      clear H
      have p318 : 0 ≤ (x4_1 : Int) := od
      have q318 : x4_1 < (l0.length : Int) := od
      obtain ⟨ad318, e318, hx318_0, hx318_1⟩ := at_T38 HR0.out x4_1 p318 q318
      cases e318
      replace hx318_0 := cu HB.out hx318_0
      replace hx318_1 := cu HB.out hx318_1
      replace p318 := eq_true p318
      replace q318 := eq_true q318
      go_wp2_with (first | (go_at_call 26; (with_reducible refine (archivistref06_Name.calls _ _ _ _ A4.out).mono ?_); rintro e w' ⟨rfl, ⟨nd, rfl⟩⟩; (try exact dw)))
      repeat (go_quiet (first | (go_at_call 26; (with_reducible refine (archivistref06_Name.calls _ _ _ _ A4.out).mono ?_); rintro e w' ⟨rfl, ⟨nd, rfl⟩⟩; (try exact dw))); try go_wp2_with (first | (go_at_call 26; (with_reducible refine (archivistref06_Name.calls _ _ _ _ A4.out).mono ?_); rintro e w' ⟨rfl, ⟨nd, rfl⟩⟩; (try exact dw))))
      go_roundg k1
      case measure => have := HK1.out; omega
      case rel => exact ⟨(x3_1), (wrap64 (x4_1 + 1)), rs, H', ⟨by have := HK1.out; omega⟩, ⟨rz HO_3.out⟩, ⟨bl⟩⟩
    ·rw [if_neg c3] at H
     exact absurd H (by simp)
   ·rw [if_neg c2] at H
    have c2b0 : decide (x4_1 < (l0.length : Int)) = false := decide_eq_false c2
    clear c2
    obtain rfl := Option.some.inj H
    go_wp2
    repeat (go_quiet (fail); try go_wp2)
    go_ret
    exact ⟨_, by first | rfl | (simp [errW_none, errW_some] <;> rfl) | (simp [*, errW_none, errW_some] <;> rfl), by (with_reducible repeat (first | apply Kd.R_alloc | apply Kd.R_drewN | apply Kd.R_drew)); exact HO_3.out, bl⟩

/-! ### archivistref06_With: function 24 -/
def archivistref06_With.f (k : Nat) (l0 : List (S38)) (l1 : List (S38)) : Option ((List (S38))) := if ([] : List (S38)).length + l0.length < 4398046511104 then ((some (([] : List (S38)) ++ l0 : List (S38))).bind fun y367 => (if y367.length + l1.length < 4398046511104 then ((archivistref06_Of.f k (y367 ++ l1)).bind fun t373 => (some t373)) else (none))) else (none)
theorem archivistref06_With.mono : ∀ a0 a1 k, LeO (archivistref06_With.f k a0 a1) (archivistref06_With.f (k + 1) a0 a1) := by
 intro a0 a1 k
 unfold archivistref06_With.f
 repeat' first
   | (with_reducible exact archivistref06_Of.mono _ _)
   | (with_reducible exact LeO.refl _)
   | (with_reducible exact LeO.none _)
   | (with_reducible refine LeO.ite ?_ ?_)
   | (with_reducible refine LeO.bind ?_ (fun _ => ?_))
   | exact archivistref06_Of.mono _ _
   | exact LeO.none _
   | refine LeO.ite ?_ ?_
   | refine LeO.bind ?_ (fun _ => ?_)
set_option maxHeartbeats 8000000 in
set_option maxRecDepth 100000 in
theorem archivistref06_With.calls (k : Nat) (A0 : Option Addr) (c0 : Nat) (l0 : List (S38)) (A1 : Option Addr) (c1 : Nat) (l1 : List (S38)) (r : List (S38)) (w : World) (hr0 : Kd.C k38 w A0 l0.length l0) (hc0 : l0.length ≤ c0) (hr1 : Kd.C k38 w A1 l1.length l1) (hc1 : l1.length ≤ c1) (h : archivistref06_With.f k l0 l1 = some r) :
  Calls Try.prog 24 #[.slice A0 l0.length c0, .slice A1 l1.length c1] w fun e w' => ∃ v0_ : Value, e = .returned (v0_) ∧ Kd.R k38 38 w' w.heap.size (fun _ => True) v0_ r ∧ Below w.heap.size w w' := by
 have HR0 := Aside0.mk hr0
 have HC0 := Aside0.mk hc0
 clear hr0 hc0
 have HR1 := Aside0.mk hr1
 have HC1 := Aside0.mk hc1
 clear hr1 hc1
 have HB := Aside0.mk (Below.refl w.heap.size w)
 have H : (if ([] : List (S38)).length + l0.length < 4398046511104 then ((some (([] : List (S38)) ++ l0 : List (S38))).bind fun y367 => (if y367.length + l1.length < 4398046511104 then ((archivistref06_Of.f k (y367 ++ l1)).bind fun t373 => (some t373)) else (none))) else (none)) = some r := h
 clear h
 by_cases c3 : ([] : List (S38)).length + l0.length < 4398046511104
 ·rw [if_pos c3] at H
  have LMc3 := Aside0.mk c3
  clear c3
  obtain ⟨y367, hy367⟩ : ∃ y_ : List (S38), y_ = (([] : List (S38)) ++ l0) := ⟨_, rfl⟩
  replace H : (if y367.length + l1.length < 4398046511104 then ((archivistref06_Of.f k (y367 ++ l1)).bind fun t373 => (some t373)) else (none)) = some r := by first | (rw [hy367]; with_reducible exact H) | (have H2_ := (Option.bind_some _ _).symm.trans H; rw [hy367]; with_reducible exact H2_) | (have H2_ := (Option.bind_some _ _).symm.trans H; with_reducible exact H2_) | with_reducible exact H | (rw [hy367]; exact H) | exact H
  have Ny367 := Aside0.mk hy367
  clear hy367
  by_cases c4 : y367.length + l1.length < 4398046511104
  ·rw [if_pos c4] at H
   have LMc4 := Aside0.mk c4
   clear c4
   obtain ⟨y370, hy370⟩ : ∃ y_ : List (S38), y_ = (y367 ++ l1) := ⟨_, rfl⟩
   replace H : ((archivistref06_Of.f k y370).bind fun t373 => (some t373)) = some r := by first | (rw [hy370]; with_reducible exact H) | (have H2_ := (Option.bind_some _ _).symm.trans H; rw [hy370]; with_reducible exact H2_) | (have H2_ := (Option.bind_some _ _).symm.trans H; with_reducible exact H2_) | with_reducible exact H | (rw [hy370]; exact H) | exact H
   have Ny370 := Aside0.mk hy370
   clear hy370
   replace H := Option.bind_eq_some_iff.mp H
   obtain ⟨t373, A50, H⟩ := H
   replace H : (some t373) = some r := H
   have A5 := Aside0.mk A50
   clear A50
   obtain rfl := Option.some.inj H
   go_enter Try.func24, Try.ntmps24
   go_wp2_with (first | ((with_reducible refine gate_builtin (b := .append) (xs := #[.const (.slice none 0 0), .tmp 5]) rfl ?_); at_builtin; refine Kd.R_append_rows k38 (w0 := w) w.heap.size rfl (.const (.slice none 0 0)) (.tmp 5) 26 38 (.agg #[(.string ⟨#[]⟩), (.string ⟨#[]⟩)]) 32 rfl Try.underlying26 info38 rfl (by decide) (by omega) (.slice none 0 0) ([] : List (S38)) l0 _ _ _ (fun _ => True) (fun _ => False) rfl rfl ?aO ?aR (fun _ _ h => h) (fun _ h => h.elim) ?aF ?aB ?aS ?aL ?_; (case aR => repeat (first | exact HR0.out | (with_reducible refine Kd.C_alloc ?_ _) | (with_reducible refine Kd.C_drewN ?_ _) | (with_reducible refine Kd.C_drew ?_))); (case aB => exact bl); (case aF => exact (fun _ _ => trivial)); (case aO => exact ((Kd.R_nil _ _ _ _ (fun _ => True)))); (case aS => exact (below_size bl)); (case aL => have := LMc3.out; omega); intro v368 w6 ho hb hg hat; rw [← Ny367.out] at ho; have n0_ := Aside0.mk (hb); have n1_ := Aside0.mk (ho); clear HB; have HB := n0_; have HO369 := n1_; clear n0_ n1_; clear ho hb hg hat) | ((with_reducible refine gate_builtin (b := .append) (xs := #[.tmp 6, .tmp 7]) rfl ?_); at_builtin; refine Kd.R_append_rows k38 (w0 := w) w.heap.size rfl (.tmp 6) (.tmp 7) 26 38 (.agg #[(.string ⟨#[]⟩), (.string ⟨#[]⟩)]) 32 rfl Try.underlying26 info38 rfl (by decide) (by omega) v368 y367 l1 _ _ _ (fun _ => True) (fun _ => False) rfl rfl ?aO ?aR (fun _ _ h => h) (fun _ h => h.elim) ?aF ?aB ?aS ?aL ?_; (case aR => repeat (first | exact (Kd.C_below HR1.out HB.out) | (with_reducible refine Kd.C_alloc ?_ _) | (with_reducible refine Kd.C_drewN ?_ _) | (with_reducible refine Kd.C_drew ?_))); (case aB => exact bl); (case aF => exact (fun _ _ => trivial)); (case aO => exact (rz HO369.out)); (case aS => exact (below_size bl)); (case aL => have := LMc4.out; omega); intro v371 w7 ho hb hg hat; rw [← Ny370.out] at ho; have n0_ := Aside0.mk (hb); have n1_ := Aside0.mk (ho); clear HB; clear HO369; have HB := n0_; have HO372 := n1_; clear n0_ n1_; clear ho hb hg hat; obtain ⟨Ao8, co8, eo8⟩ := Kd.R_slice HO372.out; subst eo8) | ((with_reducible refine gate_callee (f := 22) rfl ?_); refine goesL_ (some 9) rfl rfl Try.func22 (by kernel_rfl) rfl #[.slice Ao8 y370.length co8] rfl ml ?_; (with_reducible refine (archivistref06_Of.calls _ _ _ _ _ _ ?side1 ?side2 A5.out).mono ?_); (case side1 => exact cz (Kd.R_reads' HO372.out).2.2); (case side2 => exact (Kd.R_reads' HO372.out).2.1); rintro e w9 ⟨v374, rfl, ho0, hb⟩; refine ⟨_, rfl, ?_⟩; have n0_ := Aside0.mk (Kd.R_elder' (rz HO372.out) (Kd.R_base ho0) hb); have n1_ := Aside0.mk (Kd.R_lower (Kd.R_new' ho0 (Kd.R_lt (rz HO372.out))) (below_size bl)); have n2_ := Aside0.mk (below_step bl hb); clear HO372; clear HB; have HO372 := n0_; have HO375 := n1_; have HB := n2_; clear n0_ n1_ n2_; (try clear hb); (try clear hb2); (try clear hk); (try clear hi); (try clear ho0)))
   go_ret
   exact ⟨_, by first | rfl | (simp [errW_none, errW_some] <;> rfl) | (simp [*, errW_none, errW_some] <;> rfl), by (with_reducible repeat (first | apply Kd.R_alloc | apply Kd.R_drewN | apply Kd.R_drew)); exact Kd.R_mono HO375.out (fun _ hk => trivial), bl⟩
  ·rw [if_neg c4] at H
   exact absurd H (by simp)
 ·rw [if_neg c3] at H
  exact absurd H (by simp)

end Go.Proofs.Ytbkhgldinmabiaa.X
