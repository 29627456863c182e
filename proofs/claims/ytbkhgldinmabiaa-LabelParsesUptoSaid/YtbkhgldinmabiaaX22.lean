-- Laid by xprint.py, a program of this session's, out of the translation.
import Derived.Test.YtbkhgldinmabiaaX0
import Derived.Test.YtbkhgldinmabiaaX21
namespace Go.Proofs.Ytbkhgldinmabiaa.X
open Go.RowKit Go.Proofs.YtbkhgldinmabiaaW.PrintWords Go.Proofs.YtbkhgldinmabiaaW.PrintLast Go.Proofs.YtbkhgldinmabiaaW.PrintMore
attribute [local go_sem] max2_int min2_int max_two min_two max_three min_three max_four min_four x_isSome x_str_gtr x_str_leq x_str_geq   -- for this text's walks alone
set_option linter.unusedVariables false
set_option linter.unusedSimpArgs false

/-! ### archivistref06_Order: function 32 -/
mutual
def archivistref06_Order.l0 : Nat → List (S38) → List (S38) → Int → Option (Int)
 | 0, _, _, _ => none
 | k + 1, x0, x1, x5 => if x5 < (x0.length : Int) then (archivistref06_Order.j1 k x0 x1 x5 (decide (x5 < (x1.length : Int)))) else (archivistref06_Order.j1 k x0 x1 x5 false)
def archivistref06_Order.j1 : Nat → List (S38) → List (S38) → Int → Bool → Option (Int)
 | 0, _, _, _, _ => none
 | k + 1, x0, x1, x5, x17 => if x17 = true then (if 0 ≤ x5 then (if x5 < (x0.length : Int) then (if x5 < (x1.length : Int) then ((archivistref06_less.f ((rd_T38 x0 x5).f0) ((rd_T38 x1 x5).f0)).bind fun t402 => (if t402 = 0 then ((archivistref06_less.f ((rd_T38 x0 x5).f1) ((rd_T38 x1 x5).f1)).bind fun t405 => (if t405 = 0 then (archivistref06_Order.l0 k x0 x1 (wrap64 (x5 + 1))) else (some t405))) else (some t402))) else (none)) else (none)) else (none)) else (if (x0.length : Int) < (x1.length : Int) then (some (-1)) else (if (x0.length : Int) > (x1.length : Int) then (some 1) else (some 0)))
end
def archivistref06_Order.f (k : Nat) (l0 : List (S38)) (l1 : List (S38)) : Option (Int) := archivistref06_Order.l0 k l0 l1 0
theorem archivistref06_Order.mono_l : ∀ k, (∀ y0 y1 y2, LeO (archivistref06_Order.l0 k y0 y1 y2) (archivistref06_Order.l0 (k + 1) y0 y1 y2)) ∧ (∀ y0 y1 y2 y3, LeO (archivistref06_Order.j1 k y0 y1 y2 y3) (archivistref06_Order.j1 (k + 1) y0 y1 y2 y3))
 | 0 => ⟨fun _ _ _ r h => by simp [archivistref06_Order.l0] at h, fun _ _ _ _ r h => by simp [archivistref06_Order.j1] at h⟩
 | k + 1 => by
  obtain ⟨ih0, ih1⟩ := archivistref06_Order.mono_l k
  refine ⟨?_, ?_⟩
  ·intro y0 y1 y2
   unfold archivistref06_Order.l0
   repeat' first
   | (with_reducible exact ih0 _ _ _)
   | (with_reducible exact ih1 _ _ _ _)
   | (with_reducible exact LeO.refl _)
   | (with_reducible exact LeO.none _)
   | (with_reducible refine LeO.ite ?_ ?_)
   | (with_reducible refine LeO.bind ?_ (fun _ => ?_))
   | exact ih0 _ _ _
   | exact ih1 _ _ _ _
   | exact LeO.none _
   | refine LeO.ite ?_ ?_
   | refine LeO.bind ?_ (fun _ => ?_)
  ·intro y0 y1 y2 y3
   unfold archivistref06_Order.j1
   repeat' first
   | (with_reducible exact ih0 _ _ _)
   | (with_reducible exact ih1 _ _ _ _)
   | (with_reducible exact LeO.refl _)
   | (with_reducible exact LeO.none _)
   | (with_reducible refine LeO.ite ?_ ?_)
   | (with_reducible refine LeO.bind ?_ (fun _ => ?_))
   | exact ih0 _ _ _
   | exact ih1 _ _ _ _
   | exact LeO.none _
   | refine LeO.ite ?_ ?_
   | refine LeO.bind ?_ (fun _ => ?_)
theorem archivistref06_Order.mono : ∀ a0 a1 k, LeO (archivistref06_Order.f k a0 a1) (archivistref06_Order.f (k + 1) a0 a1) := by
 intro a0 a1 k
 obtain ⟨ih0, ih1⟩ := archivistref06_Order.mono_l k
 unfold archivistref06_Order.f
 repeat' first
   | (with_reducible exact ih0 _ _ _)
   | (with_reducible exact ih1 _ _ _ _)
   | (with_reducible exact LeO.refl _)
   | (with_reducible exact LeO.none _)
   | (with_reducible refine LeO.ite ?_ ?_)
   | (with_reducible refine LeO.bind ?_ (fun _ => ?_))
   | exact ih0 _ _ _
   | exact ih1 _ _ _ _
   | exact LeO.none _
   | refine LeO.ite ?_ ?_
   | refine LeO.bind ?_ (fun _ => ?_)
set_option maxHeartbeats 8000000 in
set_option maxRecDepth 100000 in
theorem archivistref06_Order.calls (k : Nat) (A0 : Option Addr) (c0 : Nat) (l0 : List (S38)) (A1 : Option Addr) (c1 : Nat) (l1 : List (S38)) (r : Int) (w : World) (hr0 : Kd.C k38 w A0 l0.length l0) (hc0 : l0.length ≤ c0) (hr1 : Kd.C k38 w A1 l1.length l1) (hc1 : l1.length ≤ c1) (h : archivistref06_Order.f k l0 l1 = some r) :
  Calls Try.prog 32 #[.slice A0 l0.length c0, .slice A1 l1.length c1] w fun e w' => e = .returned (.int .i64 r) ∧ Drawn0 w w' := by
 have HR0 := Aside0.mk hr0
 have HC0 := Aside0.mk hc0
 clear hr0 hc0
 have HR1 := Aside0.mk hr1
 have HC1 := Aside0.mk hc1
 clear hr1 hc1
 have H : (archivistref06_Order.l0 k l0 l1 0) = some r := h
 clear h
 have H' := Aside0.mk H
 clear H
 go_enter Try.func32, Try.ntmps32
 go_wp2
 repeat (go_quiet (fail); try go_wp2)
 go_loopg [5] k (fun kq v5 w' => ∃ (x5_1 : Int), v5 = .int .i64 x5_1 ∧ Aside0 (archivistref06_Order.l0 kq l0 l1 x5_1 = some r) ∧ Aside0 (kq ≤ k) ∧ Drawn0 w w')
 case atStart => exact ⟨(0), rs, H', ⟨Nat.le_refl _⟩, by repeat (first | exact Drawn0.refl _ | apply Drawn0.step)⟩
 case round =>
  clear H'
  try clear c1
  try clear p2
  obtain ⟨x5_1, rfl, HA, HK1, ⟨m1, rfl⟩⟩ := hrel
  cases gk with
  | zero => exact absurd HA.out (by simp [archivistref06_Order.l0])
  | succ k1 =>
   have H := HA.out
   clear HA
   simp only [archivistref06_Order.l0] at H
   have HC3 := Aside0.mk H
   clear H
   go_upto_region 2 with (fail)
   repeat (go_quiet (fail); go_upto_region 2 with (fail))
   go_cut [17] (fun v17 wc => ∃ (kq : Nat) (x17_2 : Bool), v17 = .bool x17_2 ∧ Aside0 (archivistref06_Order.j1 kq l0 l1 x5_1 x17_2 = some r) ∧ Aside0 (kq ≤ k1) ∧ Drawn0 w wc)
   case first =>
    have H := HC3.out
    clear HC3
    by_cases c4 : x5_1 < (l0.length : Int)
    ·rw [if_pos c4] at H
     have c4b0 := decide_eq_true c4
     clear c4
     (first | rw [c4b0] | (simp only [i64_w, i32_w]; rw [c4b0]) | skip)
     have H' := Aside0.mk H
     clear H
     go_wp2
     repeat (go_quiet (fail); try go_wp2)
     go_meet
     case rel => exact ⟨_, (decide (x5_1 < (l1.length : Int))), rs, H', ⟨by have := HK1.out; first | omega | exact Nat.le_refl _⟩, by repeat (first | exact Drawn0.refl _ | apply Drawn0.step)⟩
    ·rw [if_neg c4] at H
     have c4b0 : decide (x5_1 < (l0.length : Int)) = false := decide_eq_false c4
     clear c4
     (first | rw [c4b0] | (simp only [i64_w, i32_w]; rw [c4b0]) | skip)
     have H' := Aside0.mk H
     clear H
     go_wp2
     repeat (go_quiet (fail); try go_wp2)
     go_meet
     case rel => exact ⟨_, (false), rs, H', ⟨by have := HK1.out; first | omega | exact Nat.le_refl _⟩, by repeat (first | exact Drawn0.refl _ | apply Drawn0.step)⟩
   case rest =>
    clear HC3
    try clear c1
    try clear p2
    try clear c3
    try clear c4
    try clear c4b0
    try clear p2
    obtain ⟨kq, x17_2, rfl, HA, HJ2, ⟨mc2, rfl⟩⟩ := hcut
    cases kq with
    | zero => exact absurd HA.out (by simp [archivistref06_Order.j1])
    | succ kj2 =>
     have H := HA.out
     clear HA
     simp only [archivistref06_Order.j1] at H
     by_cases c5 : x17_2 = true
     ·subst c5
      have H1 : (if 0 ≤ x5_1 then (if x5_1 < (l0.length : Int) then (if x5_1 < (l1.length : Int) then ((archivistref06_less.f ((rd_T38 l0 x5_1).f0) ((rd_T38 l1 x5_1).f0)).bind fun t402 => (if t402 = 0 then ((archivistref06_less.f ((rd_T38 l0 x5_1).f1) ((rd_T38 l1 x5_1).f1)).bind fun t405 => (if t405 = 0 then (archivistref06_Order.l0 kj2 l0 l1 (wrap64 (x5_1 + 1))) else (some t405))) else (some t402))) else (none)) else (none)) else (none)) = some r := by rw [if_pos rfl] at H; exact H
      clear H
      have H := H1
      clear H1
      by_cases c6 : 0 ≤ x5_1
      ·rw [if_pos c6] at H
       have c6b0 := decide_eq_true c6
       clear c6
       by_cases c7 : x5_1 < (l0.length : Int)
       ·rw [if_pos c7] at H
        have c7b0 := decide_eq_true c7
        clear c7
        by_cases c8 : x5_1 < (l1.length : Int)
        ·rw [if_pos c8] at H
         have c8b0 := decide_eq_true c8
         clear c8
         replace H := Option.bind_eq_some_iff.mp H
         obtain ⟨t402, A90, H⟩ := H
         replace H : (if t402 = 0 then ((archivistref06_less.f ((rd_T38 l0 x5_1).f1) ((rd_T38 l1 x5_1).f1)).bind fun t405 => (if t405 = 0 then (archivistref06_Order.l0 kj2 l0 l1 (wrap64 (x5_1 + 1))) else (some t405))) else (some t402)) = some r := H
         have A9 := Aside0.mk A90
         clear A90
         by_cases c10 : t402 = 0
         ·rw [if_pos c10] at H
          have c10b0 : (t402 == 0) = true := beq_iff_eq.mpr c10
          have c10b1 : (t402 != 0) = false := bne_eq_false_iff_eq.mpr c10
          clear c10
          replace H := Option.bind_eq_some_iff.mp H
          obtain ⟨t405, A110, H⟩ := H
          replace H : (if t405 = 0 then (archivistref06_Order.l0 kj2 l0 l1 (wrap64 (x5_1 + 1))) else (some t405)) = some r := H
          have A11 := Aside0.mk A110
          clear A110
          by_cases c12 : t405 = 0
          ·rw [if_pos c12] at H
           have c12b0 : (t405 == 0) = true := beq_iff_eq.mpr c12
           have c12b1 : (t405 != 0) = false := bne_eq_false_iff_eq.mpr c12
           clear c12
           have H' := Aside0.mk H
           clear H
           have p400 : 0 ≤ (x5_1 : Int) := od
           have q400 : x5_1 < (l0.length : Int) := od
           obtain ⟨ad400, e400, hx400_0, hx400_1⟩ := at_T38 HR0.out x5_1 p400 q400
           cases e400
           replace p400 := eq_true p400
           replace q400 := eq_true q400
           have p401 : 0 ≤ (x5_1 : Int) := od
           have q401 : x5_1 < (l1.length : Int) := od
           obtain ⟨ad401, e401, hx401_0, hx401_1⟩ := at_T38 HR1.out x5_1 p401 q401
           cases e401
           replace p401 := eq_true p401
           replace q401 := eq_true q401
           go_wp2_with (first | (go_at_call 62; (with_reducible refine (archivistref06_less.calls _ _ _ _ A9.out).mono ?_); rintro e w' ⟨rfl, ⟨nd, rfl⟩⟩; (try exact dw); have p403 : 0 ≤ (x5_1 : Int) := od; have q403 : x5_1 < (l0.length : Int) := od; obtain ⟨ad403, e403, hx403_0, hx403_1⟩ := at_T38 HR0.out x5_1 p403 q403; obtain rfl : ad400 = ad403 := (by injection e403); replace p403 := eq_true p403; replace q403 := eq_true q403; have p404 : 0 ≤ (x5_1 : Int) := od; have q404 : x5_1 < (l1.length : Int) := od; obtain ⟨ad404, e404, hx404_0, hx404_1⟩ := at_T38 HR1.out x5_1 p404 q404; obtain rfl : ad401 = ad404 := (by injection e404); replace p404 := eq_true p404; replace q404 := eq_true q404) | (go_at_call 62; (with_reducible refine (archivistref06_less.calls _ _ _ _ A11.out).mono ?_); rintro e w' ⟨rfl, ⟨nd, rfl⟩⟩; (try exact dw)))
           repeat (go_quiet (first | (go_at_call 62; (with_reducible refine (archivistref06_less.calls _ _ _ _ A9.out).mono ?_); rintro e w' ⟨rfl, ⟨nd, rfl⟩⟩; (try exact dw); have p403 : 0 ≤ (x5_1 : Int) := od; have q403 : x5_1 < (l0.length : Int) := od; obtain ⟨ad403, e403, hx403_0, hx403_1⟩ := at_T38 HR0.out x5_1 p403 q403; obtain rfl : ad400 = ad403 := (by injection e403); replace p403 := eq_true p403; replace q403 := eq_true q403; have p404 : 0 ≤ (x5_1 : Int) := od; have q404 : x5_1 < (l1.length : Int) := od; obtain ⟨ad404, e404, hx404_0, hx404_1⟩ := at_T38 HR1.out x5_1 p404 q404; obtain rfl : ad401 = ad404 := (by injection e404); replace p404 := eq_true p404; replace q404 := eq_true q404) | (go_at_call 62; (with_reducible refine (archivistref06_less.calls _ _ _ _ A11.out).mono ?_); rintro e w' ⟨rfl, ⟨nd, rfl⟩⟩; (try exact dw))); try go_wp2_with (first | (go_at_call 62; (with_reducible refine (archivistref06_less.calls _ _ _ _ A9.out).mono ?_); rintro e w' ⟨rfl, ⟨nd, rfl⟩⟩; (try exact dw); have p403 : 0 ≤ (x5_1 : Int) := od; have q403 : x5_1 < (l0.length : Int) := od; obtain ⟨ad403, e403, hx403_0, hx403_1⟩ := at_T38 HR0.out x5_1 p403 q403; obtain rfl : ad400 = ad403 := (by injection e403); replace p403 := eq_true p403; replace q403 := eq_true q403; have p404 : 0 ≤ (x5_1 : Int) := od; have q404 : x5_1 < (l1.length : Int) := od; obtain ⟨ad404, e404, hx404_0, hx404_1⟩ := at_T38 HR1.out x5_1 p404 q404; obtain rfl : ad401 = ad404 := (by injection e404); replace p404 := eq_true p404; replace q404 := eq_true q404) | (go_at_call 62; (with_reducible refine (archivistref06_less.calls _ _ _ _ A11.out).mono ?_); rintro e w' ⟨rfl, ⟨nd, rfl⟩⟩; (try exact dw))))
           go_roundg kj2
           case measure => have := HK1.out; have := HJ2.out; omega
           case rel => exact ⟨(wrap64 (x5_1 + 1)), rs, H', ⟨by have := HK1.out; have := HJ2.out; omega⟩, by repeat (first | exact Drawn0.refl _ | apply Drawn0.step)⟩
          ·rw [if_neg c12] at H
           have c12b0 : (t405 == 0) = false := beq_eq_false_iff_ne.mpr c12
           have c12b1 : (t405 != 0) = true := bne_iff_ne.mpr c12
           obtain rfl := Option.some.inj H
           have p400 : 0 ≤ (x5_1 : Int) := od
           have q400 : x5_1 < (l0.length : Int) := od
           obtain ⟨ad400, e400, hx400_0, hx400_1⟩ := at_T38 HR0.out x5_1 p400 q400
           cases e400
           replace p400 := eq_true p400
           replace q400 := eq_true q400
           have p401 : 0 ≤ (x5_1 : Int) := od
           have q401 : x5_1 < (l1.length : Int) := od
           obtain ⟨ad401, e401, hx401_0, hx401_1⟩ := at_T38 HR1.out x5_1 p401 q401
           cases e401
           replace p401 := eq_true p401
           replace q401 := eq_true q401
           go_wp2_with (first | (go_at_call 62; (with_reducible refine (archivistref06_less.calls _ _ _ _ A9.out).mono ?_); rintro e w' ⟨rfl, ⟨nd, rfl⟩⟩; (try exact dw); have p403 : 0 ≤ (x5_1 : Int) := od; have q403 : x5_1 < (l0.length : Int) := od; obtain ⟨ad403, e403, hx403_0, hx403_1⟩ := at_T38 HR0.out x5_1 p403 q403; obtain rfl : ad400 = ad403 := (by injection e403); replace p403 := eq_true p403; replace q403 := eq_true q403; have p404 : 0 ≤ (x5_1 : Int) := od; have q404 : x5_1 < (l1.length : Int) := od; obtain ⟨ad404, e404, hx404_0, hx404_1⟩ := at_T38 HR1.out x5_1 p404 q404; obtain rfl : ad401 = ad404 := (by injection e404); replace p404 := eq_true p404; replace q404 := eq_true q404) | (go_at_call 62; (with_reducible refine (archivistref06_less.calls _ _ _ _ A11.out).mono ?_); rintro e w' ⟨rfl, ⟨nd, rfl⟩⟩; (try exact dw)))
           repeat (go_quiet (first | (go_at_call 62; (with_reducible refine (archivistref06_less.calls _ _ _ _ A9.out).mono ?_); rintro e w' ⟨rfl, ⟨nd, rfl⟩⟩; (try exact dw); have p403 : 0 ≤ (x5_1 : Int) := od; have q403 : x5_1 < (l0.length : Int) := od; obtain ⟨ad403, e403, hx403_0, hx403_1⟩ := at_T38 HR0.out x5_1 p403 q403; obtain rfl : ad400 = ad403 := (by injection e403); replace p403 := eq_true p403; replace q403 := eq_true q403; have p404 : 0 ≤ (x5_1 : Int) := od; have q404 : x5_1 < (l1.length : Int) := od; obtain ⟨ad404, e404, hx404_0, hx404_1⟩ := at_T38 HR1.out x5_1 p404 q404; obtain rfl : ad401 = ad404 := (by injection e404); replace p404 := eq_true p404; replace q404 := eq_true q404) | (go_at_call 62; (with_reducible refine (archivistref06_less.calls _ _ _ _ A11.out).mono ?_); rintro e w' ⟨rfl, ⟨nd, rfl⟩⟩; (try exact dw))); try go_wp2_with (first | (go_at_call 62; (with_reducible refine (archivistref06_less.calls _ _ _ _ A9.out).mono ?_); rintro e w' ⟨rfl, ⟨nd, rfl⟩⟩; (try exact dw); have p403 : 0 ≤ (x5_1 : Int) := od; have q403 : x5_1 < (l0.length : Int) := od; obtain ⟨ad403, e403, hx403_0, hx403_1⟩ := at_T38 HR0.out x5_1 p403 q403; obtain rfl : ad400 = ad403 := (by injection e403); replace p403 := eq_true p403; replace q403 := eq_true q403; have p404 : 0 ≤ (x5_1 : Int) := od; have q404 : x5_1 < (l1.length : Int) := od; obtain ⟨ad404, e404, hx404_0, hx404_1⟩ := at_T38 HR1.out x5_1 p404 q404; obtain rfl : ad401 = ad404 := (by injection e404); replace p404 := eq_true p404; replace q404 := eq_true q404) | (go_at_call 62; (with_reducible refine (archivistref06_less.calls _ _ _ _ A11.out).mono ?_); rintro e w' ⟨rfl, ⟨nd, rfl⟩⟩; (try exact dw))))
           go_ret
           exact ⟨rs, dr⟩
         ·rw [if_neg c10] at H
          have c10b0 : (t402 == 0) = false := beq_eq_false_iff_ne.mpr c10
          have c10b1 : (t402 != 0) = true := bne_iff_ne.mpr c10
          obtain rfl := Option.some.inj H
          have p400 : 0 ≤ (x5_1 : Int) := od
          have q400 : x5_1 < (l0.length : Int) := od
          obtain ⟨ad400, e400, hx400_0, hx400_1⟩ := at_T38 HR0.out x5_1 p400 q400
          cases e400
          replace p400 := eq_true p400
          replace q400 := eq_true q400
          have p401 : 0 ≤ (x5_1 : Int) := od
          have q401 : x5_1 < (l1.length : Int) := od
          obtain ⟨ad401, e401, hx401_0, hx401_1⟩ := at_T38 HR1.out x5_1 p401 q401
          cases e401
          replace p401 := eq_true p401
          replace q401 := eq_true q401
          go_wp2_with (first | (go_at_call 62; (with_reducible refine (archivistref06_less.calls _ _ _ _ A9.out).mono ?_); rintro e w' ⟨rfl, ⟨nd, rfl⟩⟩; (try exact dw)))
          repeat (go_quiet (first | (go_at_call 62; (with_reducible refine (archivistref06_less.calls _ _ _ _ A9.out).mono ?_); rintro e w' ⟨rfl, ⟨nd, rfl⟩⟩; (try exact dw))); try go_wp2_with (first | (go_at_call 62; (with_reducible refine (archivistref06_less.calls _ _ _ _ A9.out).mono ?_); rintro e w' ⟨rfl, ⟨nd, rfl⟩⟩; (try exact dw))))
          go_ret
          exact ⟨rs, dr⟩
        ·rw [if_neg c8] at H
         exact absurd H (by simp)
       ·rw [if_neg c7] at H
        exact absurd H (by simp)
      ·rw [if_neg c6] at H
       exact absurd H (by simp)
     ·replace c5 := Bool.eq_false_iff.mpr c5
      subst c5
      have H1 : (if (l0.length : Int) < (l1.length : Int) then (some (-1)) else (if (l0.length : Int) > (l1.length : Int) then (some 1) else (some 0))) = some r := by rw [if_neg (show ¬ (false = true) by decide)] at H; exact H
      clear H
      have H := H1
      clear H1
      by_cases c13 : (l0.length : Int) < (l1.length : Int)
      ·rw [if_pos c13] at H
       have c13b0 := decide_eq_true c13
       have c13b1 : decide (l0.length < l1.length) = true := decide_eq_true (Int.ofNat_lt.mp c13)
       clear c13
       obtain rfl := Option.some.inj H
       go_wp2
       repeat (go_quiet (fail); try go_wp2)
       go_ret
       exact ⟨rs, dr⟩
      ·rw [if_neg c13] at H
       have c13b0 : decide ((l0.length : Int) < (l1.length : Int)) = false := decide_eq_false c13
       have c13b1 : decide (l0.length < l1.length) = false := decide_eq_false (fun h => c13 (Int.ofNat_lt.mpr h))
       clear c13
       by_cases c14 : (l0.length : Int) > (l1.length : Int)
       ·rw [if_pos c14] at H
        have c14b0 := decide_eq_true c14
        have c14b1 : decide (l1.length < l0.length) = true := decide_eq_true (Int.ofNat_lt.mp c14)
        clear c14
        obtain rfl := Option.some.inj H
        go_wp2
        repeat (go_quiet (fail); try go_wp2)
        go_ret
        exact ⟨rs, dr⟩
       ·rw [if_neg c14] at H
        have c14b0 : decide ((l1.length : Int) < (l0.length : Int)) = false := decide_eq_false c14
        have c14b1 : decide (l1.length < l0.length) = false := decide_eq_false (fun h => c14 (Int.ofNat_lt.mpr h))
        clear c14
        obtain rfl := Option.some.inj H
        go_wp2
        repeat (go_quiet (fail); try go_wp2)
        go_ret
        exact ⟨rs, dr⟩

end Go.Proofs.Ytbkhgldinmabiaa.X
