-- Laid by xprint.py, a program of this session's, out of the translation.
import Derived.Test.YtaehlbbjbeibfaaX0
import Derived.Test.YtaehlbbjbeibfaaX5
namespace Go.Proofs.Ytaehlbbjbeibfaa.X
open Go.RowKit Go.Proofs.YtaehlbbjbeibfaaW.PrintWords Go.Proofs.YtaehlbbjbeibfaaW.PrintLast Go.Proofs.YtaehlbbjbeibfaaW.PrintMore
attribute [local go_sem] max2_int min2_int max_two min_two max_three min_three max_four min_four x_isSome x_str_gtr x_str_leq x_str_geq   -- for this text's walks alone
set_option linter.unusedVariables false
set_option linter.unusedSimpArgs false

/-! ### archivistref06_Order: function 45 -/
mutual
def archivistref06_Order.l0 : Nat → List (S108) → List (S108) → Int → Option (Int)
 | 0, _, _, _ => none
 | k + 1, x0, x1, x5 => if x5 < (x0.length : Int) then (archivistref06_Order.j1 k x0 x1 x5 (decide (x5 < (x1.length : Int)))) else (archivistref06_Order.j1 k x0 x1 x5 false)
def archivistref06_Order.j1 : Nat → List (S108) → List (S108) → Int → Bool → Option (Int)
 | 0, _, _, _, _ => none
 | k + 1, x0, x1, x5, x17 => if x17 = true then (if 0 ≤ x5 then (if x5 < (x0.length : Int) then (if x5 < (x1.length : Int) then ((archivistref06_less.f ((rd_T108 x0 x5).f0) ((rd_T108 x1 x5).f0)).bind fun t156 => (if t156 = 0 then ((archivistref06_less.f ((rd_T108 x0 x5).f1) ((rd_T108 x1 x5).f1)).bind fun t159 => (if t159 = 0 then (archivistref06_Order.l0 k x0 x1 (wrap64 (x5 + 1))) else (some t159))) else (some t156))) else (none)) else (none)) else (none)) else (if (x0.length : Int) < (x1.length : Int) then (some (-1)) else (if (x0.length : Int) > (x1.length : Int) then (some 1) else (some 0)))
end
def archivistref06_Order.f (k : Nat) (l0 : List (S108)) (l1 : List (S108)) : Option (Int) := archivistref06_Order.l0 k l0 l1 0
theorem archivistref06_Order.mono_l : ∀ k, (∀ y0 y1 y2, LeO (archivistref06_Order.l0 k y0 y1 y2) (archivistref06_Order.l0 (k + 1) y0 y1 y2)) ∧ (∀ y0 y1 y2 y3, LeO (archivistref06_Order.j1 k y0 y1 y2 y3) (archivistref06_Order.j1 (k + 1) y0 y1 y2 y3))
 | 0 => ⟨fun _ _ _ r h => by simp [archivistref06_Order.l0] at h, fun _ _ _ _ r h => by simp [archivistref06_Order.j1] at h⟩
 | k + 1 => by
  obtain ⟨ih0, ih1⟩ := archivistref06_Order.mono_l k
  refine ⟨?_, ?_⟩
  ·intro y0 y1 y2
   unfold archivistref06_Order.l0
   exact mo
  ·intro y0 y1 y2 y3
   unfold archivistref06_Order.j1
   exact mo
theorem archivistref06_Order.mono : ∀ a0 a1 k, LeO (archivistref06_Order.f k a0 a1) (archivistref06_Order.f (k + 1) a0 a1) := by
 intro a0 a1 k
 obtain ⟨ih0, ih1⟩ := archivistref06_Order.mono_l k
 unfold archivistref06_Order.f
 exact mo
theorem archivistref06_Order.lf {p_ : Prop} (h : p_ := by
 go_wp2_with (first | (go_at_call 54; (with_reducible refine (archivistref06_less.calls ((rd_T108 l0 x5_1).f0) ((rd_T108 l1 x5_1).f0) t156 _ A9.out).mono ?_); rintro e w' ⟨rfl, ⟨nd, rfl⟩⟩; (try exact dw)) | (go_at_call 54; (with_reducible refine (archivistref06_less.calls ((rd_T108 l0 x5_1).f0) ((rd_T108 l1 x5_1).f0) t156 _ A9.out).mono ?_); rintro e w' ⟨rfl, ⟨nd, rfl⟩⟩; (try exact dw); have pq0 : 0 ≤ (x5_1 : Int) := od; have qq1 : x5_1 < (l0.length : Int) := od; obtain ⟨adq2, eq3, hxq4, hxq5⟩ := at_T108 HR0.out x5_1 pq0 qq1; obtain rfl : ad154 = adq2 := (by injection eq3); replace pq0 := eq_true pq0; replace qq1 := eq_true qq1; have pq6 : 0 ≤ (x5_1 : Int) := od; have qq7 : x5_1 < (l1.length : Int) := od; obtain ⟨adq8, eq9, hxq10, hxq11⟩ := at_T108 HR1.out x5_1 pq6 qq7; obtain rfl : ad155 = adq8 := (by injection eq9); replace pq6 := eq_true pq6; replace qq7 := eq_true qq7) | (go_at_call 54; (with_reducible refine (archivistref06_less.calls ((rd_T108 l0 x5_1).f1) ((rd_T108 l1 x5_1).f1) t159 _ A11.out).mono ?_); rintro e w' ⟨rfl, ⟨nd, rfl⟩⟩; (try exact dw)))
 first
 | (
  repeat (go_quiet (first | (go_at_call 54; (with_reducible refine (archivistref06_less.calls ((rd_T108 l0 x5_1).f0) ((rd_T108 l1 x5_1).f0) t156 _ A9.out).mono ?_); rintro e w' ⟨rfl, ⟨nd, rfl⟩⟩; (try exact dw); have pq0 : 0 ≤ (x5_1 : Int) := od; have qq1 : x5_1 < (l0.length : Int) := od; obtain ⟨adq2, eq3, hxq4, hxq5⟩ := at_T108 HR0.out x5_1 pq0 qq1; obtain rfl : ad154 = adq2 := (by injection eq3); replace pq0 := eq_true pq0; replace qq1 := eq_true qq1; have pq6 : 0 ≤ (x5_1 : Int) := od; have qq7 : x5_1 < (l1.length : Int) := od; obtain ⟨adq8, eq9, hxq10, hxq11⟩ := at_T108 HR1.out x5_1 pq6 qq7; obtain rfl : ad155 = adq8 := (by injection eq9); replace pq6 := eq_true pq6; replace qq7 := eq_true qq7) | (go_at_call 54; (with_reducible refine (archivistref06_less.calls ((rd_T108 l0 x5_1).f1) ((rd_T108 l1 x5_1).f1) t159 _ A11.out).mono ?_); rintro e w' ⟨rfl, ⟨nd, rfl⟩⟩; (try exact dw))); try go_wp2_with (first | (go_at_call 54; (with_reducible refine (archivistref06_less.calls ((rd_T108 l0 x5_1).f0) ((rd_T108 l1 x5_1).f0) t156 _ A9.out).mono ?_); rintro e w' ⟨rfl, ⟨nd, rfl⟩⟩; (try exact dw); have pq0 : 0 ≤ (x5_1 : Int) := od; have qq1 : x5_1 < (l0.length : Int) := od; obtain ⟨adq2, eq3, hxq4, hxq5⟩ := at_T108 HR0.out x5_1 pq0 qq1; obtain rfl : ad154 = adq2 := (by injection eq3); replace pq0 := eq_true pq0; replace qq1 := eq_true qq1; have pq6 : 0 ≤ (x5_1 : Int) := od; have qq7 : x5_1 < (l1.length : Int) := od; obtain ⟨adq8, eq9, hxq10, hxq11⟩ := at_T108 HR1.out x5_1 pq6 qq7; obtain rfl : ad155 = adq8 := (by injection eq9); replace pq6 := eq_true pq6; replace qq7 := eq_true qq7) | (go_at_call 54; (with_reducible refine (archivistref06_less.calls ((rd_T108 l0 x5_1).f1) ((rd_T108 l1 x5_1).f1) t159 _ A11.out).mono ?_); rintro e w' ⟨rfl, ⟨nd, rfl⟩⟩; (try exact dw))))
  go_roundg kj2
  case measure => have := HK1.out; have := HJ2.out; omega
  case rel => exact ⟨(wrap64 (x5_1 + 1)), rs, H', ⟨by have := HK1.out; have := HJ2.out; omega⟩, zbs⟩)
 | (
  repeat (go_quiet (first | (go_at_call 54; (with_reducible refine (archivistref06_less.calls ((rd_T108 l0 x5_1).f0) ((rd_T108 l1 x5_1).f0) t156 _ A9.out).mono ?_); rintro e w' ⟨rfl, ⟨nd, rfl⟩⟩; (try exact dw); have pq0 : 0 ≤ (x5_1 : Int) := od; have qq1 : x5_1 < (l0.length : Int) := od; obtain ⟨adq2, eq3, hxq4, hxq5⟩ := at_T108 HR0.out x5_1 pq0 qq1; obtain rfl : ad154 = adq2 := (by injection eq3); replace pq0 := eq_true pq0; replace qq1 := eq_true qq1; have pq6 : 0 ≤ (x5_1 : Int) := od; have qq7 : x5_1 < (l1.length : Int) := od; obtain ⟨adq8, eq9, hxq10, hxq11⟩ := at_T108 HR1.out x5_1 pq6 qq7; obtain rfl : ad155 = adq8 := (by injection eq9); replace pq6 := eq_true pq6; replace qq7 := eq_true qq7) | (go_at_call 54; (with_reducible refine (archivistref06_less.calls ((rd_T108 l0 x5_1).f1) ((rd_T108 l1 x5_1).f1) t159 _ A11.out).mono ?_); rintro e w' ⟨rfl, ⟨nd, rfl⟩⟩; (try exact dw))); try go_wp2_with (first | (go_at_call 54; (with_reducible refine (archivistref06_less.calls ((rd_T108 l0 x5_1).f0) ((rd_T108 l1 x5_1).f0) t156 _ A9.out).mono ?_); rintro e w' ⟨rfl, ⟨nd, rfl⟩⟩; (try exact dw); have pq0 : 0 ≤ (x5_1 : Int) := od; have qq1 : x5_1 < (l0.length : Int) := od; obtain ⟨adq2, eq3, hxq4, hxq5⟩ := at_T108 HR0.out x5_1 pq0 qq1; obtain rfl : ad154 = adq2 := (by injection eq3); replace pq0 := eq_true pq0; replace qq1 := eq_true qq1; have pq6 : 0 ≤ (x5_1 : Int) := od; have qq7 : x5_1 < (l1.length : Int) := od; obtain ⟨adq8, eq9, hxq10, hxq11⟩ := at_T108 HR1.out x5_1 pq6 qq7; obtain rfl : ad155 = adq8 := (by injection eq9); replace pq6 := eq_true pq6; replace qq7 := eq_true qq7) | (go_at_call 54; (with_reducible refine (archivistref06_less.calls ((rd_T108 l0 x5_1).f1) ((rd_T108 l1 x5_1).f1) t159 _ A11.out).mono ?_); rintro e w' ⟨rfl, ⟨nd, rfl⟩⟩; (try exact dw))))
  go_ret
  exact ⟨rs, dr⟩)
 | (
  repeat (go_quiet (first | (go_at_call 54; (with_reducible refine (archivistref06_less.calls ((rd_T108 l0 x5_1).f0) ((rd_T108 l1 x5_1).f0) t156 _ A9.out).mono ?_); rintro e w' ⟨rfl, ⟨nd, rfl⟩⟩; (try exact dw))); try go_wp2_with (first | (go_at_call 54; (with_reducible refine (archivistref06_less.calls ((rd_T108 l0 x5_1).f0) ((rd_T108 l1 x5_1).f0) t156 _ A9.out).mono ?_); rintro e w' ⟨rfl, ⟨nd, rfl⟩⟩; (try exact dw))))
  go_ret
  exact ⟨rs, dr⟩)) : p_ := h
theorem archivistref06_Order.lf1 {p_ : Prop} (h : p_ := by
 go_wp2
 repeat (go_quiet (fail); try go_wp2)
 go_ret
 exact ⟨rs, dr⟩) : p_ := h
set_option maxHeartbeats 8000000 in
set_option maxRecDepth 100000 in
theorem archivistref06_Order.calls (k : Nat) (A0 : Option Addr) (c0 : Nat) (l0 : List (S108)) (A1 : Option Addr) (c1 : Nat) (l1 : List (S108)) (r : Int) (w : World) (hr0 : Kd.C k108 w A0 l0.length l0) (hc0 : l0.length ≤ c0) (hr1 : Kd.C k108 w A1 l1.length l1) (hc1 : l1.length ≤ c1) (h : archivistref06_Order.f k l0 l1 = some r) :
  Calls Try.prog 45 #[.slice A0 l0.length c0, .slice A1 l1.length c1] w fun e w' => e = .returned (.int .i64 r) ∧ Drawn0 w w' := by
 have HR0 := Aside0.mk hr0; have HC0 := Aside0.mk hc0; clear hr0 hc0; have HR1 := Aside0.mk hr1; have HC1 := Aside0.mk hc1; clear hr1 hc1; have H : (archivistref06_Order.l0 k l0 l1 0) = some r := h; clear h; have H' := Aside0.mk H; clear H; go_enter Try.func45, Try.ntmps45
 go_wp2
 repeat (go_quiet (fail); try go_wp2)
 go_loopg [5] k (fun kq v5 w' => ∃ (x5_1 : Int), v5 = .int .i64 x5_1 ∧ Aside0 (archivistref06_Order.l0 kq l0 l1 x5_1 = some r) ∧ Aside0 (kq ≤ k) ∧ Drawn0 w w')
 case atStart => exact ⟨(0), rs, H', ⟨Nat.le_refl _⟩, zbs⟩
 case round =>
  clear H'; (try clear c1); (try clear p2); obtain ⟨x5_1, rfl, HA, HK1, ⟨m1, rfl⟩⟩ := hrel; cases gk with
  | zero => exact absurd HA.out (by simp [archivistref06_Order.l0])
  | succ k1 =>
   have H := HA.out; clear HA; simp only [archivistref06_Order.l0] at H; have HC3 := Aside0.mk H; clear H; go_upto_region 2 with (fail)
   repeat (go_quiet (fail); go_upto_region 2 with (fail))
   go_cut [17] (fun v17 wc => ∃ (kq : Nat) (x17_2 : Bool), v17 = .bool x17_2 ∧ Aside0 (archivistref06_Order.j1 kq l0 l1 x5_1 x17_2 = some r) ∧ Aside0 (kq ≤ k1) ∧ Drawn0 w wc)
   case first =>
    have H := HC3.out; clear HC3; by_cases c4 : x5_1 < (l0.length : Int)
    ·rw [if_pos c4] at H; have c4b0 := decide_eq_true c4; clear c4
     (first | rw [c4b0] | (simp only [i64_w, i32_w]; rw [c4b0]) | skip); have H' := Aside0.mk H; clear H; go_wp2
     repeat (go_quiet (fail); try go_wp2)
     go_meet
     case rel => exact ⟨_, (decide (x5_1 < (l1.length : Int))), rs, H', ⟨zde⟩, zbs⟩
    ·rw [if_neg c4] at H; have c4b0 : decide (x5_1 < (l0.length : Int)) = false := decide_eq_false c4; clear c4
     (first | rw [c4b0] | (simp only [i64_w, i32_w]; rw [c4b0]) | skip); have H' := Aside0.mk H; clear H; go_wp2
     repeat (go_quiet (fail); try go_wp2)
     go_meet
     case rel => exact ⟨_, (false), rs, H', ⟨zde⟩, zbs⟩
   case rest =>
    clear HC3; (try clear c1); (try clear p2); (try clear c4); (try clear c4b0); (try clear p2); obtain ⟨kq, x17_2, rfl, HA, HJ2, ⟨mc2, rfl⟩⟩ := hcut; cases kq with
    | zero => exact absurd HA.out (by simp [archivistref06_Order.j1])
    | succ kj2 =>
     have H := HA.out; clear HA; simp only [archivistref06_Order.j1] at H; by_cases c5 : x17_2 = true
     ·subst c5; rw [if_pos rfl] at H; obtain ⟨c6, H⟩ := ip H; have c6b0 := decide_eq_true c6; clear c6; obtain ⟨c7, H⟩ := ip H; have c7b0 := decide_eq_true c7; clear c7; obtain ⟨c8, H⟩ := ip H; have c8b0 := decide_eq_true c8; clear c8; obtain ⟨t156, A9, H⟩ := be H; by_cases c10 : t156 = 0
      ·rw [if_pos c10] at H; have c10b0 : (t156 == 0) = true := beq_iff_eq.mpr c10; have c10b1 : (t156 != 0) = false := bne_eq_false_iff_eq.mpr c10; clear c10; obtain ⟨t159, A11, H⟩ := be H; by_cases c12 : t159 = 0
       ·rw [if_pos c12] at H; have c12b0 : (t159 == 0) = true := beq_iff_eq.mpr c12; have c12b1 : (t159 != 0) = false := bne_eq_false_iff_eq.mpr c12; clear c12; have H' := Aside0.mk H; clear H; have p154 : 0 ≤ (x5_1 : Int) := od; have q154 : x5_1 < (l0.length : Int) := od; obtain ⟨ad154, e154, hx154_0, hx154_1⟩ := at_T108 HR0.out x5_1 p154 q154; cases e154; replace p154 := eq_true p154; replace q154 := eq_true q154; have p155 : 0 ≤ (x5_1 : Int) := od; have q155 : x5_1 < (l1.length : Int) := od; obtain ⟨ad155, e155, hx155_0, hx155_1⟩ := at_T108 HR1.out x5_1 p155 q155; cases e155; replace p155 := eq_true p155; replace q155 := eq_true q155; exact archivistref06_Order.lf
       ·rw [if_neg c12] at H; have c12b0 : (t159 == 0) = false := beq_eq_false_iff_ne.mpr c12; have c12b1 : (t159 != 0) = true := bne_iff_ne.mpr c12; obtain rfl := Option.some.inj H; have p154 : 0 ≤ (x5_1 : Int) := od; have q154 : x5_1 < (l0.length : Int) := od; obtain ⟨ad154, e154, hx154_0, hx154_1⟩ := at_T108 HR0.out x5_1 p154 q154; cases e154; replace p154 := eq_true p154; replace q154 := eq_true q154; have p155 : 0 ≤ (x5_1 : Int) := od; have q155 : x5_1 < (l1.length : Int) := od; obtain ⟨ad155, e155, hx155_0, hx155_1⟩ := at_T108 HR1.out x5_1 p155 q155; cases e155; replace p155 := eq_true p155; replace q155 := eq_true q155; exact archivistref06_Order.lf
      ·rw [if_neg c10] at H; have c10b0 : (t156 == 0) = false := beq_eq_false_iff_ne.mpr c10; have c10b1 : (t156 != 0) = true := bne_iff_ne.mpr c10; obtain rfl := Option.some.inj H; have p154 : 0 ≤ (x5_1 : Int) := od; have q154 : x5_1 < (l0.length : Int) := od; obtain ⟨ad154, e154, hx154_0, hx154_1⟩ := at_T108 HR0.out x5_1 p154 q154; cases e154; replace p154 := eq_true p154; replace q154 := eq_true q154; have p155 : 0 ≤ (x5_1 : Int) := od; have q155 : x5_1 < (l1.length : Int) := od; obtain ⟨ad155, e155, hx155_0, hx155_1⟩ := at_T108 HR1.out x5_1 p155 q155; cases e155; replace p155 := eq_true p155; replace q155 := eq_true q155; exact archivistref06_Order.lf
     ·replace c5 := Bool.eq_false_iff.mpr c5; subst c5; rw [if_neg nf] at H; by_cases c13 : (l0.length : Int) < (l1.length : Int)
      ·rw [if_pos c13] at H; have c13b0 := decide_eq_true c13; have c13b1 : decide (l0.length < l1.length) = true := decide_eq_true (Int.ofNat_lt.mp c13); clear c13; obtain rfl := Option.some.inj H; exact archivistref06_Order.lf1
      ·rw [if_neg c13] at H; have c13b0 : decide ((l0.length : Int) < (l1.length : Int)) = false := decide_eq_false c13; have c13b1 : decide (l0.length < l1.length) = false := decide_eq_false (fun h => c13 (Int.ofNat_lt.mpr h)); clear c13; by_cases c14 : (l0.length : Int) > (l1.length : Int)
       ·rw [if_pos c14] at H; have c14b0 := decide_eq_true c14; have c14b1 : decide (l1.length < l0.length) = true := decide_eq_true (Int.ofNat_lt.mp c14); clear c14; obtain rfl := Option.some.inj H; exact archivistref06_Order.lf1
       ·rw [if_neg c14] at H; have c14b0 : decide ((l1.length : Int) < (l0.length : Int)) = false := decide_eq_false c14; have c14b1 : decide (l1.length < l0.length) = false := decide_eq_false (fun h => c14 (Int.ofNat_lt.mpr h)); clear c14; obtain rfl := Option.some.inj H; exact archivistref06_Order.lf1

/-! ### archivistref13_Order: function 32 -/
def archivistref13_Order.f (k : Nat) (a0_0 : Int) (l0_1 : List (S108)) (a0_2 : ByteArray) (a1_0 : Int) (l1_1 : List (S108)) (a1_2 : ByteArray) : Option (Int) := if a0_0 = a1_0 then ((archivistref06_Order.f k l0_1 l1_1).bind fun t162 => (if t162 = 0 then (if (Op.bytesLess a0_2.toList a1_2.toList) = true then (some (-1)) else (if (Op.bytesLess a1_2.toList a0_2.toList) = true then (some 1) else (some 0))) else (some t162))) else (if a0_0 < a1_0 then (some (-1)) else (some 1))
theorem archivistref13_Order.mono : ∀ a0 a1 a2 a3 a4 a5 k, LeO (archivistref13_Order.f k a0 a1 a2 a3 a4 a5) (archivistref13_Order.f (k + 1) a0 a1 a2 a3 a4 a5) := by
 intro a0 a1 a2 a3 a4 a5 k
 unfold archivistref13_Order.f
 exact mo
theorem archivistref13_Order.lf {p_ : Prop} (h : p_ := by
 go_enter Try.func32, Try.ntmps32
 go_wp2_with (first | ((with_reducible refine gate_dst (N := 2) rfl ?_); refine box_event ?hg (N := 2) ?hd (cs := #[.int .i64 a0_0, .slice A0_1 l0_1.length c0_1, .string a0_2]) (t := 48) ?hr ?_; (case hd => rfl); (case hg => rfl); (case hr => first | (go_simp; done) | (go_simp; rfl)); intro gbq0 hg wq1 hbox hb; have BKq2 := Aside0.mk (hbox); have GWq3 := Aside0.mk ((zad : w.heap.size ≤ gbq0)); have GEq4 := Aside0.mk ((zad : w.heap.size ≤ gbq0)); replace HB := Aside0.mk (below_step bl hb); clear hb hbox hg) | ((with_reducible refine gate_dst (N := 3) rfl ?_); refine box_event ?hg (N := 3) ?hd (cs := #[.int .i64 a1_0, .slice A1_1 l1_1.length c1_1, .string a1_2]) (t := 48) ?hr ?_; (case hd => rfl); (case hg => rfl); (case hr => first | (go_simp; done) | (go_simp; rfl)); intro gbq5 hg wq6 hbox hb; have BKq7 := Aside0.mk (hbox); have GWq8 := Aside0.mk ((zak : w.heap.size ≤ gbq5)); have GEq9 := Aside0.mk ((zak : w.heap.size ≤ gbq5)); have NBq10 := Aside0.mk ((zcm : gbq0 ≠ gbq5)); have NBq11 := Aside0.mk ((zcn : gbq5 ≠ gbq0)); replace BKq2 := Aside0.mk (blk_below (g := gbq0) (o := .cells #[.int .i64 a0_0, .slice A0_1 l0_1.length c0_1, .string a0_2] 48 (0, 0)) (bz BKq2.out) hb); replace HB := Aside0.mk (below_step bs hb); clear hb hbox hg; have hnbq12 := NBq10.out; have hncq13 := NBq11.out; have hczq14 : wq6.cell? ⟨gbq0, 0, none⟩ = some (.int .i64 a0_0) := (blk_cell BKq2.out 0).trans rfl; have hczq15 : wq6.cell? ⟨gbq0, 1, none⟩ = some (.slice A0_1 l0_1.length c0_1) := (blk_cell BKq2.out 1).trans rfl; have hczq16 : wq6.cell? ⟨gbq0, 2, none⟩ = some (.string a0_2) := (blk_cell BKq2.out 2).trans rfl; have hfzq17 := blk_frozen BKq2.out 0; have hfzq18 := blk_frozen BKq2.out 1; have hfzq19 := blk_frozen BKq2.out 2; have hczq20 : wq6.cell? ⟨gbq5, 0, none⟩ = some (.int .i64 a1_0) := (blk_cell BKq7.out 0).trans rfl; have hczq21 : wq6.cell? ⟨gbq5, 1, none⟩ = some (.slice A1_1 l1_1.length c1_1) := (blk_cell BKq7.out 1).trans rfl; have hczq22 : wq6.cell? ⟨gbq5, 2, none⟩ = some (.string a1_2) := (blk_cell BKq7.out 2).trans rfl; have hfzq23 := blk_frozen BKq7.out 0; have hfzq24 := blk_frozen BKq7.out 1; have hfzq25 := blk_frozen BKq7.out 2) | ((with_reducible refine gate_callee (f := 45) rfl ?_); refine goesL_ (some 20) rfl rfl Try.func45 (by kernel_rfl) rfl #[.slice A0_1 l0_1.length c0_1, .slice A1_1 l1_1.length c1_1] rfl ml ?_; (with_reducible refine (archivistref06_Order.calls k _ _ l0_1 _ _ l1_1 t162 _ ?side1 ?side2 ?side3 ?side4 A4.out).mono ?_); (case side1 => repeat (first | exact (Kd.C_below HR0_1.out HB.out) | (with_reducible refine Kd.C_alloc ?_ _) | (with_reducible refine Kd.C_drewN ?_ _) | (with_reducible refine Kd.C_drew ?_))); (case side2 => exact HC0_1.out); (case side3 => repeat (first | exact (Kd.C_below HR1_1.out HB.out) | (with_reducible refine Kd.C_alloc ?_ _) | (with_reducible refine Kd.C_drewN ?_ _) | (with_reducible refine Kd.C_drew ?_))); (case side4 => exact HC1_1.out); rintro e w' ⟨rfl, ⟨nd, rfl⟩⟩; refine ⟨_, rfl, ?_⟩))
 go_ret
 exact ⟨zaa, bs⟩) : p_ := h
set_option maxHeartbeats 8000000 in
set_option maxRecDepth 100000 in
theorem archivistref13_Order.calls (k : Nat) (a0_0 : Int) (A0_1 : Option Addr) (c0_1 : Nat) (l0_1 : List (S108)) (a0_2 : ByteArray) (a1_0 : Int) (A1_1 : Option Addr) (c1_1 : Nat) (l1_1 : List (S108)) (a1_2 : ByteArray) (r : Int) (w : World) (hr0_1 : Kd.C k108 w A0_1 l0_1.length l0_1) (hc0_1 : l0_1.length ≤ c0_1) (hr1_1 : Kd.C k108 w A1_1 l1_1.length l1_1) (hc1_1 : l1_1.length ≤ c1_1) (h : archivistref13_Order.f k a0_0 l0_1 a0_2 a1_0 l1_1 a1_2 = some r) :
  Calls Try.prog 32 #[.agg #[.int .i64 a0_0, .slice A0_1 l0_1.length c0_1, .string a0_2], .agg #[.int .i64 a1_0, .slice A1_1 l1_1.length c1_1, .string a1_2]] w fun e w' => e = .returned (.int .i64 r) ∧ Below w.heap.size w w' := by
 have hu48 := Try.underlying48
 have HR0_1 := Aside0.mk hr0_1
 have HC0_1 := Aside0.mk hc0_1
 clear hr0_1 hc0_1
 have HR1_1 := Aside0.mk hr1_1
 have HC1_1 := Aside0.mk hc1_1
 clear hr1_1 hc1_1
 have HB := Aside0.mk (Below.refl w.heap.size w)
 have H : (if a0_0 = a1_0 then ((archivistref06_Order.f k l0_1 l1_1).bind fun t162 => (if t162 = 0 then (if (Op.bytesLess a0_2.toList a1_2.toList) = true then (some (-1)) else (if (Op.bytesLess a1_2.toList a0_2.toList) = true then (some 1) else (some 0))) else (some t162))) else (if a0_0 < a1_0 then (some (-1)) else (some 1))) = some r := h
 clear h
 by_cases c3 : a0_0 = a1_0
 ·rw [if_pos c3] at H
  have c3b0 : (a0_0 == a1_0) = true := beq_iff_eq.mpr c3
  have c3b1 : (a0_0 != a1_0) = false := bne_eq_false_iff_eq.mpr c3
  clear c3
  obtain ⟨t162, A4, H⟩ := be H
  by_cases c5 : t162 = 0
  ·rw [if_pos c5] at H
   have c5b0 : (t162 == 0) = true := beq_iff_eq.mpr c5
   have c5b1 : (t162 != 0) = false := bne_eq_false_iff_eq.mpr c5
   clear c5
   by_cases c6 : (Op.bytesLess a0_2.toList a1_2.toList) = true
   ·rw [if_pos c6] at H
    have c6b0 := c6
    have c6e1 : (a0_2.toList == a1_2.toList) = false := beq_eq_false_iff_ne.2 (x_less_ne c6b0)
    have c6e2 : (a1_2.toList == a0_2.toList) = false := beq_eq_false_iff_ne.2 (Ne.symm (x_less_ne c6b0))
    have c6e3 : Op.bytesLess a1_2.toList a0_2.toList = false := x_less_asym c6b0
    clear c6
    obtain rfl := Option.some.inj H
    exact archivistref13_Order.lf
   ·rw [if_neg c6] at H
    have c6b0 : (Op.bytesLess a0_2.toList a1_2.toList) = false := by simpa using c6
    clear c6
    by_cases c12 : (Op.bytesLess a1_2.toList a0_2.toList) = true
    ·rw [if_pos c12] at H
     have c12b0 := c12
     have c12e1 : (a1_2.toList == a0_2.toList) = false := beq_eq_false_iff_ne.2 (x_less_ne c12b0)
     have c12e2 : (a0_2.toList == a1_2.toList) = false := beq_eq_false_iff_ne.2 (Ne.symm (x_less_ne c12b0))
     have c12e3 : Op.bytesLess a0_2.toList a1_2.toList = false := x_less_asym c12b0
     clear c12
     obtain rfl := Option.some.inj H
     exact archivistref13_Order.lf
    ·rw [if_neg c12] at H
     have c12b0 : (Op.bytesLess a1_2.toList a0_2.toList) = false := by simpa using c12
     (try (have c12e1 : (a1_2.toList == a0_2.toList) = true := beq_iff_eq.2 (x_less_tri c12b0 c6b0)))
     (try (have c12e2 : (a0_2.toList == a1_2.toList) = true := beq_iff_eq.2 (x_less_tri c6b0 c12b0)))
     clear c12
     obtain rfl := Option.some.inj H
     exact archivistref13_Order.lf
  ·rw [if_neg c5] at H
   have c5b0 : (t162 == 0) = false := beq_eq_false_iff_ne.mpr c5
   have c5b1 : (t162 != 0) = true := bne_iff_ne.mpr c5
   obtain rfl := Option.some.inj H
   exact archivistref13_Order.lf
 ·rw [if_neg c3] at H
  have c3b0 : (a0_0 == a1_0) = false := beq_eq_false_iff_ne.mpr c3
  have c3b1 : (a0_0 != a1_0) = true := bne_iff_ne.mpr c3
  by_cases c28 : a0_0 < a1_0
  ·rw [if_pos c28] at H
   have c28b0 := decide_eq_true c28
   clear c28
   obtain rfl := Option.some.inj H
   exact archivistref13_Order.lf
  ·rw [if_neg c28] at H
   have c28b0 : decide (a0_0 < a1_0) = false := decide_eq_false c28
   clear c28
   obtain rfl := Option.some.inj H
   exact archivistref13_Order.lf

/-! ### archivistref13_Ahead: function 24 -/
def archivistref13_Ahead.f (k : Nat) (a0_0 : Int) (l0_1 : List (S108)) (a0_2 : ByteArray) (a1_0 : Int) (l1_1 : List (S108)) (a1_2 : ByteArray) (a2 : Bool) : Option (Bool) := if a2 = true then ((archivistref13_Order.f k a0_0 l0_1 a0_2 a1_0 l1_1 a1_2).bind fun t165 => (some (decide (t165 < 0)))) else ((archivistref13_Order.f k a0_0 l0_1 a0_2 a1_0 l1_1 a1_2).bind fun t166 => (some (decide (t166 > 0))))
theorem archivistref13_Ahead.mono : ∀ a0 a1 a2 a3 a4 a5 a6 k, LeO (archivistref13_Ahead.f k a0 a1 a2 a3 a4 a5 a6) (archivistref13_Ahead.f (k + 1) a0 a1 a2 a3 a4 a5 a6) := by
 intro a0 a1 a2 a3 a4 a5 a6 k
 unfold archivistref13_Ahead.f
 exact mo
theorem archivistref13_Ahead.lf {p_ : Prop} (h : p_ := by
 go_enter Try.func24, Try.ntmps24
 go_wp2_with (first | ((with_reducible refine gate_dst (N := 3) rfl ?_); refine box_event ?hg (N := 3) ?hd (cs := #[.int .i64 a0_0, .slice A0_1 l0_1.length c0_1, .string a0_2]) (t := 48) ?hr ?_; (case hd => rfl); (case hg => rfl); (case hr => first | (go_simp; done) | (go_simp; rfl)); intro gbq0 hg wq1 hbox hb; have BKq2 := Aside0.mk (hbox); have GWq3 := Aside0.mk ((zad : w.heap.size ≤ gbq0)); have GEq4 := Aside0.mk ((zad : w.heap.size ≤ gbq0)); replace HB := Aside0.mk (below_step bl hb); clear hb hbox hg) | ((with_reducible refine gate_dst (N := 4) rfl ?_); refine box_event ?hg (N := 4) ?hd (cs := #[.int .i64 a1_0, .slice A1_1 l1_1.length c1_1, .string a1_2]) (t := 48) ?hr ?_; (case hd => rfl); (case hg => rfl); (case hr => first | (go_simp; done) | (go_simp; rfl)); intro gbq5 hg wq6 hbox hb; have BKq7 := Aside0.mk (hbox); have GWq8 := Aside0.mk ((zak : w.heap.size ≤ gbq5)); have GEq9 := Aside0.mk ((zak : w.heap.size ≤ gbq5)); have NBq10 := Aside0.mk ((zcm : gbq0 ≠ gbq5)); have NBq11 := Aside0.mk ((zcn : gbq5 ≠ gbq0)); replace BKq2 := Aside0.mk (blk_below (g := gbq0) (o := .cells #[.int .i64 a0_0, .slice A0_1 l0_1.length c0_1, .string a0_2] 48 (0, 0)) (bz BKq2.out) hb); replace HB := Aside0.mk (below_step bs hb); clear hb hbox hg; have hnbq12 := NBq10.out; have hncq13 := NBq11.out; have hczq14 : wq6.cell? ⟨gbq0, 0, none⟩ = some (.int .i64 a0_0) := (blk_cell BKq2.out 0).trans rfl; have hczq15 : wq6.cell? ⟨gbq0, 1, none⟩ = some (.slice A0_1 l0_1.length c0_1) := (blk_cell BKq2.out 1).trans rfl; have hczq16 : wq6.cell? ⟨gbq0, 2, none⟩ = some (.string a0_2) := (blk_cell BKq2.out 2).trans rfl; have hfzq17 := blk_frozen BKq2.out 0; have hfzq18 := blk_frozen BKq2.out 1; have hfzq19 := blk_frozen BKq2.out 2; have hczq20 : wq6.cell? ⟨gbq5, 0, none⟩ = some (.int .i64 a1_0) := (blk_cell BKq7.out 0).trans rfl; have hczq21 : wq6.cell? ⟨gbq5, 1, none⟩ = some (.slice A1_1 l1_1.length c1_1) := (blk_cell BKq7.out 1).trans rfl; have hczq22 : wq6.cell? ⟨gbq5, 2, none⟩ = some (.string a1_2) := (blk_cell BKq7.out 2).trans rfl; have hfzq23 := blk_frozen BKq7.out 0; have hfzq24 := blk_frozen BKq7.out 1; have hfzq25 := blk_frozen BKq7.out 2) | ((with_reducible refine gate_callee (f := 32) rfl ?_); refine goesL_ (some 14) rfl rfl Try.func32 (by kernel_rfl) rfl #[.agg #[.int .i64 a0_0, .slice A0_1 l0_1.length c0_1, .string a0_2], .agg #[.int .i64 a1_0, .slice A1_1 l1_1.length c1_1, .string a1_2]] rfl ml ?_; (with_reducible refine (archivistref13_Order.calls k a0_0 _ _ l0_1 a0_2 a1_0 _ _ l1_1 a1_2 t166 _ ?side1 ?side2 ?side3 ?side4 A12.out).mono ?_); (case side1 => repeat (first | exact (Kd.C_below HR0_1.out HB.out) | (with_reducible refine Kd.C_alloc ?_ _) | (with_reducible refine Kd.C_drewN ?_ _) | (with_reducible refine Kd.C_drew ?_))); (case side2 => exact HC0_1.out); (case side3 => repeat (first | exact (Kd.C_below HR1_1.out HB.out) | (with_reducible refine Kd.C_alloc ?_ _) | (with_reducible refine Kd.C_drewN ?_ _) | (with_reducible refine Kd.C_drew ?_))); (case side4 => exact HC1_1.out); rintro e wq26 ⟨rfl, hb⟩; refine ⟨_, rfl, ?_⟩; replace BKq2 := Aside0.mk (blk_below (g := gbq0) (o := .cells #[.int .i64 a0_0, .slice A0_1 l0_1.length c0_1, .string a0_2] 48 (0, 0)) (bz BKq2.out) hb); replace BKq7 := Aside0.mk (blk_below (g := gbq5) (o := .cells #[.int .i64 a1_0, .slice A1_1 l1_1.length c1_1, .string a1_2] 48 (0, 0)) (bz BKq7.out) hb); replace HB := Aside0.mk (below_step bs hb); (try clear hb); (try clear hb2); (try clear hk); (try clear hi)) | ((with_reducible refine gate_callee (f := 32) rfl ?_); refine goesL_ (some 10) rfl rfl Try.func32 (by kernel_rfl) rfl #[.agg #[.int .i64 a0_0, .slice A0_1 l0_1.length c0_1, .string a0_2], .agg #[.int .i64 a1_0, .slice A1_1 l1_1.length c1_1, .string a1_2]] rfl ml ?_; (with_reducible refine (archivistref13_Order.calls k a0_0 _ _ l0_1 a0_2 a1_0 _ _ l1_1 a1_2 t165 _ ?side1 ?side2 ?side3 ?side4 A5.out).mono ?_); (case side1 => repeat (first | exact (Kd.C_below HR0_1.out HB.out) | (with_reducible refine Kd.C_alloc ?_ _) | (with_reducible refine Kd.C_drewN ?_ _) | (with_reducible refine Kd.C_drew ?_))); (case side2 => exact HC0_1.out); (case side3 => repeat (first | exact (Kd.C_below HR1_1.out HB.out) | (with_reducible refine Kd.C_alloc ?_ _) | (with_reducible refine Kd.C_drewN ?_ _) | (with_reducible refine Kd.C_drew ?_))); (case side4 => exact HC1_1.out); rintro e wq26 ⟨rfl, hb⟩; refine ⟨_, rfl, ?_⟩; replace BKq2 := Aside0.mk (blk_below (g := gbq0) (o := .cells #[.int .i64 a0_0, .slice A0_1 l0_1.length c0_1, .string a0_2] 48 (0, 0)) (bz BKq2.out) hb); replace BKq7 := Aside0.mk (blk_below (g := gbq5) (o := .cells #[.int .i64 a1_0, .slice A1_1 l1_1.length c1_1, .string a1_2] 48 (0, 0)) (bz BKq7.out) hb); replace HB := Aside0.mk (below_step bs hb); (try clear hb); (try clear hb2); (try clear hk); (try clear hi)))
 go_ret
 exact ⟨zaa, bs⟩) : p_ := h
set_option maxHeartbeats 8000000 in
set_option maxRecDepth 100000 in
theorem archivistref13_Ahead.calls (k : Nat) (a0_0 : Int) (A0_1 : Option Addr) (c0_1 : Nat) (l0_1 : List (S108)) (a0_2 : ByteArray) (a1_0 : Int) (A1_1 : Option Addr) (c1_1 : Nat) (l1_1 : List (S108)) (a1_2 : ByteArray) (a2 : Bool) (r : Bool) (w : World) (hr0_1 : Kd.C k108 w A0_1 l0_1.length l0_1) (hc0_1 : l0_1.length ≤ c0_1) (hr1_1 : Kd.C k108 w A1_1 l1_1.length l1_1) (hc1_1 : l1_1.length ≤ c1_1) (h : archivistref13_Ahead.f k a0_0 l0_1 a0_2 a1_0 l1_1 a1_2 a2 = some r) :
  Calls Try.prog 24 #[.agg #[.int .i64 a0_0, .slice A0_1 l0_1.length c0_1, .string a0_2], .agg #[.int .i64 a1_0, .slice A1_1 l1_1.length c1_1, .string a1_2], .bool a2] w fun e w' => e = .returned (.bool r) ∧ Below w.heap.size w w' := by
 have hu48 := Try.underlying48
 have HR0_1 := Aside0.mk hr0_1
 have HC0_1 := Aside0.mk hc0_1
 clear hr0_1 hc0_1
 have HR1_1 := Aside0.mk hr1_1
 have HC1_1 := Aside0.mk hc1_1
 clear hr1_1 hc1_1
 have HB := Aside0.mk (Below.refl w.heap.size w)
 have H : (if a2 = true then ((archivistref13_Order.f k a0_0 l0_1 a0_2 a1_0 l1_1 a1_2).bind fun t165 => (some (decide (t165 < 0)))) else ((archivistref13_Order.f k a0_0 l0_1 a0_2 a1_0 l1_1 a1_2).bind fun t166 => (some (decide (t166 > 0))))) = some r := h
 clear h
 by_cases c4 : a2 = true
 ·subst c4
  rw [if_pos rfl] at H
  obtain ⟨t165, A5, H⟩ := be H
  obtain rfl := Option.some.inj H
  exact archivistref13_Ahead.lf
 ·replace c4 := Bool.eq_false_iff.mpr c4
  subst c4
  rw [if_neg nf] at H
  obtain ⟨t166, A12, H⟩ := be H
  obtain rfl := Option.some.inj H
  exact archivistref13_Ahead.lf

end Go.Proofs.Ytaehlbbjbeibfaa.X
