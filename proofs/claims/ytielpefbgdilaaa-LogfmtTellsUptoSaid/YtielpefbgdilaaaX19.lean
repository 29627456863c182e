-- Laid by xprint.py, a program of this session's, out of the translation.
import Derived.Test.YtielpefbgdilaaaX0
import Derived.Test.YtielpefbgdilaaaX14
namespace Go.Proofs.Ytielpefbgdilaaa.X
open Go.RowKit Go.Proofs.YtielpefbgdilaaaW.PrintWords Go.Proofs.YtielpefbgdilaaaW.PrintLast Go.Proofs.YtielpefbgdilaaaW.PrintMore
attribute [local go_sem] max2_int min2_int max_two min_two max_three min_three max_four min_four x_isSome x_str_gtr x_str_leq x_str_geq   -- for this text's walks alone
set_option linter.unusedVariables false
set_option linter.unusedSimpArgs false

/-! ### archivistref01_Put: function 33 -/
def archivistref01_Put.l0 : Nat → ByteArray → ByteArray → Int → Option (ByteArray)
 | 0, _, _, _ => none
 | k + 1, x0, x3, x4 => if x4 < (x0.size : Int) then (if 0 ≤ x4 then ((archivistref01_one.f k (bt x0 x4)).bind fun t357 => (if x3.size + t357.size ≤ 9223372036854775807 then (archivistref01_Put.l0 k x0 (x3 ++ t357) (wrap64 (x4 + 1))) else (none))) else (none)) else (if x3.size + 1 ≤ 9223372036854775807 then (some (x3 ++ (⟨#[34]⟩ : ByteArray))) else (none))
def archivistref01_Put.f (k : Nat) (a0 : ByteArray) : Option (ByteArray) := archivistref01_Put.l0 k a0 (⟨#[34]⟩ : ByteArray) 0
theorem archivistref01_Put.mono_l : ∀ k, (∀ y0 y1 y2, LeO (archivistref01_Put.l0 k y0 y1 y2) (archivistref01_Put.l0 (k + 1) y0 y1 y2))
 | 0 => fun _ _ _ r h => by simp [archivistref01_Put.l0] at h
 | k + 1 => by
  have ih0 := archivistref01_Put.mono_l k
  ·intro y0 y1 y2
   unfold archivistref01_Put.l0
   repeat' first
   | (with_reducible exact ih0 _ _ _)
   | (with_reducible exact archivistref01_one.mono _ _)
   | (with_reducible exact LeO.refl _)
   | (with_reducible exact LeO.none _)
   | (with_reducible refine LeO.ite ?_ ?_)
   | (with_reducible refine LeO.bind ?_ (fun _ => ?_))
   | exact ih0 _ _ _
   | exact archivistref01_one.mono _ _
   | exact LeO.none _
   | refine LeO.ite ?_ ?_
   | refine LeO.bind ?_ (fun _ => ?_)
theorem archivistref01_Put.mono : ∀ a0 k, LeO (archivistref01_Put.f k a0) (archivistref01_Put.f (k + 1) a0) := by
 intro a0 k
 have ih0 := archivistref01_Put.mono_l k
 unfold archivistref01_Put.f
 repeat' first
   | (with_reducible exact ih0 _ _ _)
   | (with_reducible exact archivistref01_one.mono _ _)
   | (with_reducible exact LeO.refl _)
   | (with_reducible exact LeO.none _)
   | (with_reducible refine LeO.ite ?_ ?_)
   | (with_reducible refine LeO.bind ?_ (fun _ => ?_))
   | exact ih0 _ _ _
   | exact archivistref01_one.mono _ _
   | exact LeO.none _
   | refine LeO.ite ?_ ?_
   | refine LeO.bind ?_ (fun _ => ?_)
set_option maxHeartbeats 8000000 in
set_option maxRecDepth 100000 in
theorem archivistref01_Put.calls (k : Nat) (a0 : ByteArray) (r : ByteArray) (w : World) (h : archivistref01_Put.f k a0 = some r) :
  Calls Try.prog 33 #[.string a0] w fun e w' => e = .returned (.string r) ∧ Below w.heap.size w w' := by
 have HB := Aside0.mk (Below.refl w.heap.size w)
 have H : (archivistref01_Put.l0 k a0 (⟨#[34]⟩ : ByteArray) 0) = some r := h
 clear h
 have H' := Aside0.mk H
 clear H
 go_enter Try.func33, Try.ntmps33
 go_wp2
 go_loopg [3, 4] k (fun kq v3 v4 w' => ∃ (x3_1 : ByteArray) (x4_1 : Int), v3 = .string x3_1 ∧ v4 = .int .i64 x4_1 ∧ Aside0 (archivistref01_Put.l0 kq a0 x3_1 x4_1 = some r) ∧ Aside0 (kq ≤ k) ∧ Aside0 (Below w.heap.size w w'))
 case atStart => exact ⟨((⟨#[34]⟩ : ByteArray)), (0), rs, rs, H', ⟨Nat.le_refl _⟩, ⟨bl⟩⟩
 case round =>
  clear H'
  obtain ⟨x3_1, x4_1, rfl, rfl, HA, HK1, HB⟩ := hrel
  cases gk with
  | zero => exact absurd HA.out (by simp [archivistref01_Put.l0])
  | succ k1 =>
   have H := HA.out
   clear HA
   simp only [archivistref01_Put.l0] at H
   by_cases c2 : x4_1 < (a0.size : Int)
   ·rw [if_pos c2] at H
    have c2b0 := decide_eq_true c2
    clear c2
    by_cases c3 : 0 ≤ x4_1
    ·rw [if_pos c3] at H
     have c3b0 := decide_eq_true c3
     clear c3
     replace H := Option.bind_eq_some_iff.mp H
     obtain ⟨t357, A50, H⟩ := H
     replace H : (if x3_1.size + t357.size ≤ 9223372036854775807 then (archivistref01_Put.l0 k1 a0 (x3_1 ++ t357) (wrap64 (x4_1 + 1))) else (none)) = some r := H
     have A5 := Aside0.mk A50
     clear A50
     by_cases c6 : x3_1.size + t357.size ≤ 9223372036854775807
     ·rw [if_pos c6] at H
      have c6b0 := eq_true c6
      have c6b1 : decide (x3_1.size + t357.size ≤ 9223372036854775807) = true := decide_eq_true c6
      try have c6b2 : (9223372036854775807 < x3_1.size + t357.size) = False := eq_false (Nat.not_lt.2 c6)
      have H' := Aside0.mk H
      clear H
      have p4 : 0 ≤ (x4_1 : Int) := od
      have q4 : x4_1 < (a0.size : Int) := od
      have hx4 := bt_at a0 x4_1
      replace p4 := eq_true p4
      replace q4 := eq_true q4
      go_wp2_with (first | ((with_reducible refine gate_callee (f := 42) rfl ?_); refine goesL_ (some 15) rfl rfl Try.func42 (by kernel_rfl) rfl #[.int .u8 (bt a0 x4_1)] rfl ml ?_; (with_reducible refine (archivistref01_one.calls _ _ _ _ A5.out).mono ?_); rintro e w7 ⟨rfl, hb⟩; refine ⟨_, rfl, ?_⟩; have n0_ := Aside0.mk (below_step bl hb); clear HB; have HB := n0_; clear n0_; (try clear hb); (try clear hb2); (try clear hk); (try clear hi)))
      go_roundg k1
      case measure => have := HK1.out; omega
      case rel => exact ⟨(x3_1 ++ t357), (wrap64 (x4_1 + 1)), rs, rs, H', ⟨by have := HK1.out; omega⟩, ⟨bl⟩⟩
     ·rw [if_neg c6] at H
      exact absurd H (by simp)
    ·rw [if_neg c3] at H
     exact absurd H (by simp)
   ·rw [if_neg c2] at H
    have c2b0 : decide (x4_1 < (a0.size : Int)) = false := decide_eq_false c2
    clear c2
    by_cases c8 : x3_1.size + 1 ≤ 9223372036854775807
    ·rw [if_pos c8] at H
     have c8b0 := eq_true c8
     have c8b1 : decide (x3_1.size + 1 ≤ 9223372036854775807) = true := decide_eq_true c8
     try have c8b2 : (9223372036854775807 < x3_1.size + 1) = False := eq_false (Nat.not_lt.2 c8)
     obtain rfl := Option.some.inj H
     go_wp2
     go_ret
     exact ⟨by first | rfl | (simp [errW_none, errW_some] <;> rfl) | (simp [*, errW_none, errW_some] <;> rfl), bl⟩
    ·rw [if_neg c8] at H
     exact absurd H (by simp)

/-! ### archivistref10_Put: function 17 -/
def archivistref10_Put.l0 : Nat → List (S54) → ByteArray → Int → Option (ByteArray)
 | 0, _, _, _ => none
 | k + 1, x0, x3, x4 => if x4 < (x0.length : Int) then (if x4 > 0 then (if x3.size + 1 ≤ 9223372036854775807 then (if 0 ≤ x4 then (if (x3 ++ (⟨#[32]⟩ : ByteArray)).size + ((rd_T54 x0 x4).f0).size ≤ 9223372036854775807 then (if ((x3 ++ (⟨#[32]⟩ : ByteArray)) ++ ((rd_T54 x0 x4).f0)).size + 1 ≤ 9223372036854775807 then ((archivistref01_Put.f k ((rd_T54 x0 x4).f1)).bind fun t360 => (if (((x3 ++ (⟨#[32]⟩ : ByteArray)) ++ ((rd_T54 x0 x4).f0)) ++ (⟨#[61]⟩ : ByteArray)).size + t360.size ≤ 9223372036854775807 then (archivistref10_Put.l0 k x0 ((((x3 ++ (⟨#[32]⟩ : ByteArray)) ++ ((rd_T54 x0 x4).f0)) ++ (⟨#[61]⟩ : ByteArray)) ++ t360) (wrap64 (x4 + 1))) else (none))) else (none)) else (none)) else (none)) else (none)) else (if 0 ≤ x4 then (if x3.size + ((rd_T54 x0 x4).f0).size ≤ 9223372036854775807 then (if (x3 ++ ((rd_T54 x0 x4).f0)).size + 1 ≤ 9223372036854775807 then ((archivistref01_Put.f k ((rd_T54 x0 x4).f1)).bind fun t363 => (if ((x3 ++ ((rd_T54 x0 x4).f0)) ++ (⟨#[61]⟩ : ByteArray)).size + t363.size ≤ 9223372036854775807 then (archivistref10_Put.l0 k x0 (((x3 ++ ((rd_T54 x0 x4).f0)) ++ (⟨#[61]⟩ : ByteArray)) ++ t363) (wrap64 (x4 + 1))) else (none))) else (none)) else (none)) else (none))) else (some x3)
def archivistref10_Put.f (k : Nat) (l0 : List (S54)) : Option (ByteArray) := archivistref10_Put.l0 k l0 (⟨#[]⟩ : ByteArray) 0
theorem archivistref10_Put.mono_l : ∀ k, (∀ y0 y1 y2, LeO (archivistref10_Put.l0 k y0 y1 y2) (archivistref10_Put.l0 (k + 1) y0 y1 y2))
 | 0 => fun _ _ _ r h => by simp [archivistref10_Put.l0] at h
 | k + 1 => by
  have ih0 := archivistref10_Put.mono_l k
  ·intro y0 y1 y2
   unfold archivistref10_Put.l0
   repeat' first
   | (with_reducible exact ih0 _ _ _)
   | (with_reducible exact archivistref01_Put.mono _ _)
   | (with_reducible exact LeO.refl _)
   | (with_reducible exact LeO.none _)
   | (with_reducible refine LeO.ite ?_ ?_)
   | (with_reducible refine LeO.bind ?_ (fun _ => ?_))
   | exact ih0 _ _ _
   | exact archivistref01_Put.mono _ _
   | exact LeO.none _
   | refine LeO.ite ?_ ?_
   | refine LeO.bind ?_ (fun _ => ?_)
theorem archivistref10_Put.mono : ∀ a0 k, LeO (archivistref10_Put.f k a0) (archivistref10_Put.f (k + 1) a0) := by
 intro a0 k
 have ih0 := archivistref10_Put.mono_l k
 unfold archivistref10_Put.f
 repeat' first
   | (with_reducible exact ih0 _ _ _)
   | (with_reducible exact archivistref01_Put.mono _ _)
   | (with_reducible exact LeO.refl _)
   | (with_reducible exact LeO.none _)
   | (with_reducible refine LeO.ite ?_ ?_)
   | (with_reducible refine LeO.bind ?_ (fun _ => ?_))
   | exact ih0 _ _ _
   | exact archivistref01_Put.mono _ _
   | exact LeO.none _
   | refine LeO.ite ?_ ?_
   | refine LeO.bind ?_ (fun _ => ?_)
def archivistref10_Put.T7 : Bool × List (List Nat × List Nat) := (true, [([], []), ([], []), ([], []), ([1, 2], [1, 2]), ([3], [3]), ([4], [4]), ([0, 5], [0, 5]), ([6], [6]), ([], []), ([], []), ([8, 9], [8, 9]), ([10], [10]), ([11], [11]), ([12], [12]), ([7, 13], [7, 13]), ([14, 13, 0, 1, 2, 3, 4, 5, 6, 7, 8, 9, 10, 11, 12, 13, 14], [0, 14])])
def archivistref10_Put.B7 : List Nat := [0, 0, 0, 6, 14, 30, 63, 127, 0, 0, 768, 1792, 3840, 7936, 16383, 32767]
theorem archivistref10_Put.tab7 : rtab .any (opsOf Try.f17 7) = archivistref10_Put.T7 := by kernel_rfl
theorem archivistref10_Put.bits7 : waitsOk archivistref10_Put.T7.2 archivistref10_Put.B7 = true := by kernel_rfl
set_option maxHeartbeats 8000000 in
set_option maxRecDepth 100000 in
theorem archivistref10_Put.calls (k : Nat) (A0 : Option Addr) (c0 : Nat) (l0 : List (S54)) (r : ByteArray) (w : World) (hr0 : Kd.C k54 w A0 l0.length l0) (hc0 : l0.length ≤ c0) (h : archivistref10_Put.f k l0 = some r) :
  Calls Try.prog 17 #[.slice A0 l0.length c0] w fun e w' => e = .returned (.string r) ∧ Below w.heap.size w w' := by
 have HR0 := Aside0.mk hr0
 have HC0 := Aside0.mk hc0
 clear hr0 hc0
 have HB := Aside0.mk (Below.refl w.heap.size w)
 have H : (archivistref10_Put.l0 k l0 (⟨#[]⟩ : ByteArray) 0) = some r := h
 clear h
 have H' := Aside0.mk H
 clear H
 go_enter Try.func17, Try.ntmps17
 go_wp2
 go_loopg [3, 4] k (fun kq v3 v4 w' => ∃ (x3_1 : ByteArray) (x4_1 : Int), v3 = .string x3_1 ∧ v4 = .int .i64 x4_1 ∧ Aside0 (archivistref10_Put.l0 kq l0 x3_1 x4_1 = some r) ∧ Aside0 (kq ≤ k) ∧ Aside0 (Below w.heap.size w w'))
 case atStart => exact ⟨((⟨#[]⟩ : ByteArray)), (0), rs, rs, H', ⟨Nat.le_refl _⟩, ⟨bl⟩⟩
 case round =>
  clear H'
  try clear c1
  obtain ⟨x3_1, x4_1, rfl, rfl, HA, HK1, HB⟩ := hrel
  cases gk with
  | zero => exact absurd HA.out (by simp [archivistref10_Put.l0])
  | succ k1 =>
   have H := HA.out
   clear HA
   simp only [archivistref10_Put.l0] at H
   by_cases c2 : x4_1 < (l0.length : Int)
   ·rw [if_pos c2] at H
    have c2b0 := decide_eq_true c2
    clear c2
    by_cases c3 : x4_1 > 0
    ·rw [if_pos c3] at H
     have c3b0 := decide_eq_true c3
     clear c3
     by_cases c4 : x3_1.size + 1 ≤ 9223372036854775807
     ·rw [if_pos c4] at H
      have c4b0 := eq_true c4
      have c4b1 : decide (x3_1.size + 1 ≤ 9223372036854775807) = true := decide_eq_true c4
      try have c4b2 : (9223372036854775807 < x3_1.size + 1) = False := eq_false (Nat.not_lt.2 c4)
      by_cases c5 : 0 ≤ x4_1
      ·rw [if_pos c5] at H
       have c5b0 := decide_eq_true c5
       clear c5
       by_cases c6 : (x3_1 ++ (⟨#[32]⟩ : ByteArray)).size + ((rd_T54 l0 x4_1).f0).size ≤ 9223372036854775807
       ·rw [if_pos c6] at H
        have c6b0 := eq_true c6
        have c6b1 : decide ((x3_1 ++ (⟨#[32]⟩ : ByteArray)).size + ((rd_T54 l0 x4_1).f0).size ≤ 9223372036854775807) = true := decide_eq_true c6
        try have c6b2 : (9223372036854775807 < (x3_1 ++ (⟨#[32]⟩ : ByteArray)).size + ((rd_T54 l0 x4_1).f0).size) = False := eq_false (Nat.not_lt.2 c6)
        try (have c6b3 : (9223372036854775807 < (x3_1 ++ (⟨#[32]⟩ : ByteArray)).size + ((rd_T54 l0 x4_1).f0).size) = False := eq_false (Nat.not_lt.2 c6); simp only [ByteArray.size_append, show (⟨#[32]⟩ : ByteArray).size = 1 from rfl, Nat.add_zero, Nat.zero_add] at c6b3)
        by_cases c7 : ((x3_1 ++ (⟨#[32]⟩ : ByteArray)) ++ ((rd_T54 l0 x4_1).f0)).size + 1 ≤ 9223372036854775807
        ·rw [if_pos c7] at H
         have c7b0 := eq_true c7
         have c7b1 : decide (((x3_1 ++ (⟨#[32]⟩ : ByteArray)) ++ ((rd_T54 l0 x4_1).f0)).size + 1 ≤ 9223372036854775807) = true := decide_eq_true c7
         try have c7b2 : (9223372036854775807 < ((x3_1 ++ (⟨#[32]⟩ : ByteArray)) ++ ((rd_T54 l0 x4_1).f0)).size + 1) = False := eq_false (Nat.not_lt.2 c7)
         try (have c7b3 : (9223372036854775807 < ((x3_1 ++ (⟨#[32]⟩ : ByteArray)) ++ ((rd_T54 l0 x4_1).f0)).size + 1) = False := eq_false (Nat.not_lt.2 c7); simp only [ByteArray.size_append, show (⟨#[32]⟩ : ByteArray).size = 1 from rfl, Nat.add_zero, Nat.zero_add] at c7b3)
         replace H := Option.bind_eq_some_iff.mp H
         obtain ⟨t360, A80, H⟩ := H
         replace H : (if (((x3_1 ++ (⟨#[32]⟩ : ByteArray)) ++ ((rd_T54 l0 x4_1).f0)) ++ (⟨#[61]⟩ : ByteArray)).size + t360.size ≤ 9223372036854775807 then (archivistref10_Put.l0 k1 l0 ((((x3_1 ++ (⟨#[32]⟩ : ByteArray)) ++ ((rd_T54 l0 x4_1).f0)) ++ (⟨#[61]⟩ : ByteArray)) ++ t360) (wrap64 (x4_1 + 1))) else (none)) = some r := H
         have A8 := Aside0.mk A80
         clear A80
         by_cases c9 : (((x3_1 ++ (⟨#[32]⟩ : ByteArray)) ++ ((rd_T54 l0 x4_1).f0)) ++ (⟨#[61]⟩ : ByteArray)).size + t360.size ≤ 9223372036854775807
         ·rw [if_pos c9] at H
          have c9b0 := eq_true c9
          have c9b1 : decide ((((x3_1 ++ (⟨#[32]⟩ : ByteArray)) ++ ((rd_T54 l0 x4_1).f0)) ++ (⟨#[61]⟩ : ByteArray)).size + t360.size ≤ 9223372036854775807) = true := decide_eq_true c9
          try have c9b2 : (9223372036854775807 < (((x3_1 ++ (⟨#[32]⟩ : ByteArray)) ++ ((rd_T54 l0 x4_1).f0)) ++ (⟨#[61]⟩ : ByteArray)).size + t360.size) = False := eq_false (Nat.not_lt.2 c9)
          try (have c9b3 : (9223372036854775807 < (((x3_1 ++ (⟨#[32]⟩ : ByteArray)) ++ ((rd_T54 l0 x4_1).f0)) ++ (⟨#[61]⟩ : ByteArray)).size + t360.size) = False := eq_false (Nat.not_lt.2 c9); simp only [ByteArray.size_append, show (⟨#[32]⟩ : ByteArray).size = 1 from rfl, show (⟨#[61]⟩ : ByteArray).size = 1 from rfl, Nat.add_zero, Nat.zero_add] at c9b3)
          have H' := Aside0.mk H
          clear H
          try go_wp2
          have n0_ := Aside0.mk (below_drew1 HB.out)
          clear HB
          have HB := n0_
          clear n0_
          have p358 : 0 ≤ (x4_1 : Int) := od
          have q358 : x4_1 < (l0.length : Int) := od
          obtain ⟨ad358, e358, hx358_0, hx358_1⟩ := at_T54 HR0.out x4_1 p358 q358
          have hw358_1 := hx358_1
          have hw358_0 := hx358_0
          cases e358
          replace hx358_0 := cu HB.out hx358_0
          replace hx358_1 := cu HB.out hx358_1
          replace p358 := eq_true p358
          replace q358 := eq_true q358
          have p359 : 0 ≤ (x4_1 : Int) := od
          have q359 : x4_1 < (l0.length : Int) := od
          obtain ⟨ad359, e359, hx359_0, hx359_1⟩ := at_T54 HR0.out x4_1 p359 q359
          have hw359_1 := hx359_1
          have hw359_0 := hx359_0
          obtain rfl : ad358 = ad359 := (by injection e359)
          replace hx359_0 := cu HB.out hx359_0
          replace hx359_1 := cu HB.out hx359_1
          replace p359 := eq_true p359
          replace q359 := eq_true q359
          refine start_ (n := 16) (S := fun w' => w'.cell? (ad358.add ((x4_1).toNat * 2)) = some (.string ((rd_T54 l0 x4_1).f0)) ∧ w'.cell? ⟨(ad358.add ((x4_1).toNat * 2)).block, (ad358.add ((x4_1).toNat * 2)).off + 1, none⟩ = some (.string ((rd_T54 l0 x4_1).f1)) ∧ w'.cell? (ad358.add ((x4_1).toNat * 2)) = some (.string ((rd_T54 l0 x4_1).f0)) ∧ w'.cell? ⟨(ad358.add ((x4_1).toNat * 2)).block, (ad358.add ((x4_1).toNat * 2)).off + 1, none⟩ = some (.string ((rd_T54 l0 x4_1).f1))) (ds := []) #[N_,N_,N_,N_,N_,N_,N_,N_,N_,N_,N_,N_,N_,N_,N_,N_] (by kernel_rfl) rfl rfl ⟨(cu HB.out hw358_0 :), (cu HB.out hw358_1 :), (cu HB.out hw359_0 :), (cu HB.out hw359_1 :)⟩ (fun hHeld => ?_); refine with_tabW archivistref10_Put.tab7 archivistref10_Put.bits7 (fun HT_ HW_ => ?_)
          generalize wr.drew = w10 at HB hx358_0 hx358_1 hx359_0 hx359_1 hHeld ⊢
          refine pY 0 15 #[J_,N_,N_,N_,N_,N_,N_,N_,N_,N_,N_,N_,N_,N_,N_,N_] HT_.out ?_
          refine pY 1 16 #[J_,J_,N_,N_,N_,N_,N_,N_,N_,N_,N_,N_,N_,N_,N_,N_] HT_.out ?_
          refine pY 2 17 #[J_,J_,J_,N_,N_,N_,N_,N_,N_,N_,N_,N_,N_,N_,N_,N_] HT_.out ?_
          refine pY 3 18 #[J_,J_,J_,J_,N_,N_,N_,N_,N_,N_,N_,N_,N_,N_,N_,N_] HT_.out ?_
          refine pY 4 19 #[J_,J_,J_,J_,J_,N_,N_,N_,N_,N_,N_,N_,N_,N_,N_,N_] HT_.out ?_
          refine pY 8 23 #[J_,J_,J_,J_,J_,N_,N_,N_,J_,N_,N_,N_,N_,N_,N_,N_] HT_.out ?_
          refine pY 9 24 #[J_,J_,J_,J_,J_,N_,N_,N_,J_,J_,N_,N_,N_,N_,N_,N_] HT_.out ?_
          refine pY 10 25 #[J_,J_,J_,J_,J_,N_,N_,N_,J_,J_,J_,N_,N_,N_,N_,N_] HT_.out ?_
          refine pY 11 26 #[J_,J_,J_,J_,J_,N_,N_,N_,J_,J_,J_,J_,N_,N_,N_,N_] HT_.out ?_
          refine take_ (i := 5) (N := some 20) (v := ?_) (a' := ?_) #[J_,J_,J_,J_,J_,J_,N_,N_,J_,J_,J_,J_,N_,N_,N_,N_] rfl rfl (take_ofW HT_.out HW_.out (by kernel_rfl)) (fun _ _ _ h => h) (Or.inl ⟨by rfl, ?_⟩) hHeld ?_ ?_
          rotate_left
          ·rintro w' ⟨s0, s1, s2, s3⟩
           go_simp
           with_reducible rfl
          rotate_left
          ·simp only [Act.put, List.setIfInBounds_toArray, List.set_cons_zero, List.set_cons_succ, i64_w, i32_w]
           rfl
          refine pY 6 21 #[J_,J_,J_,J_,J_,J_,J_,N_,J_,J_,J_,J_,N_,N_,N_,N_] HT_.out ?_
          refine pY 7 22 #[J_,J_,J_,J_,J_,J_,J_,J_,J_,J_,J_,J_,N_,N_,N_,N_] HT_.out ?_
          refine take_ (i := 12) (N := some 27) (v := ?_) (a' := ?_) #[J_,J_,J_,J_,J_,J_,J_,J_,J_,J_,J_,J_,J_,N_,N_,N_] rfl rfl (take_ofW HT_.out HW_.out (by kernel_rfl)) (fun _ _ _ h => h) (Or.inl ⟨by rfl, ?_⟩) hHeld ?_ ?_
          rotate_left
          ·rintro w' ⟨s0, s1, s2, s3⟩
           go_simp
           with_reducible rfl
          rotate_left
          ·simp only [Act.put, List.setIfInBounds_toArray, List.set_cons_zero, List.set_cons_succ, i64_w, i32_w]
           rfl
          refine one_ (i := 13) (N := some 28) #[J_,J_,J_,J_,J_,J_,J_,J_,J_,J_,J_,J_,J_,J_,N_,N_] rfl rfl (one_of HT_.out (by kernel_rfl)) (by decide) (fun K hK => ?_)
          refine goes_ Try.func33 (by kernel_rfl) rfl #[.string ((rd_T54 l0 x4_1).f1)] (by rfl) rfl rfl ml ?_
          with_reducible refine (archivistref01_Put.calls _ _ _ _ A8.out).mono ?_
          rintro e w11 ⟨rfl, hb⟩
          refine ⟨_, rfl, ?_⟩
          have n0_ := Aside0.mk (below_step bl hb)
          clear HB
          have HB := n0_
          clear n0_
          (try clear hb)
          (try clear hb2)
          (try clear hk)
          (try clear hi)
          refine hK.out _ _ ⟨(cu HB.out hw358_0 :), (cu HB.out hw358_1 :), (cu HB.out hw359_0 :), (cu HB.out hw359_1 :)⟩ (fun hHeld => ?_)
          clear hK K
          refine norm_ (a' := ?_) ?_ ?_
          rotate_left
          ·show Act.put _ (some 28) _ = _
           simp only [Act.put, List.setIfInBounds_toArray, List.set_cons_zero, List.set_cons_succ, i64_w, i32_w]
           rfl
          refine pY 14 29 #[J_,J_,J_,J_,J_,J_,J_,J_,J_,J_,J_,J_,J_,J_,J_,N_] HT_.out ?_
          refine pY 15 3 #[J_,J_,J_,J_,J_,J_,J_,J_,J_,J_,J_,J_,J_,J_,J_,J_] HT_.out ?_
          refine done_ (done_of HT_.out (by kernel_rfl)) ?_
          try go_wp2
          go_roundg k1
          case measure => have := HK1.out; omega
          case rel => exact ⟨((((x3_1 ++ (⟨#[32]⟩ : ByteArray)) ++ ((rd_T54 l0 x4_1).f0)) ++ (⟨#[61]⟩ : ByteArray)) ++ t360), (wrap64 (x4_1 + 1)), rs, rs, H', ⟨by have := HK1.out; omega⟩, ⟨bl⟩⟩
         ·rw [if_neg c9] at H
          exact absurd H (by simp)
        ·rw [if_neg c7] at H
         exact absurd H (by simp)
       ·rw [if_neg c6] at H
        exact absurd H (by simp)
      ·rw [if_neg c5] at H
       exact absurd H (by simp)
     ·rw [if_neg c4] at H
      exact absurd H (by simp)
    ·rw [if_neg c3] at H
     have c3b0 : decide (0 < x4_1) = false := decide_eq_false c3
     clear c3
     by_cases c12 : 0 ≤ x4_1
     ·rw [if_pos c12] at H
      have c12b0 := decide_eq_true c12
      clear c12
      by_cases c13 : x3_1.size + ((rd_T54 l0 x4_1).f0).size ≤ 9223372036854775807
      ·rw [if_pos c13] at H
       have c13b0 := eq_true c13
       have c13b1 : decide (x3_1.size + ((rd_T54 l0 x4_1).f0).size ≤ 9223372036854775807) = true := decide_eq_true c13
       try have c13b2 : (9223372036854775807 < x3_1.size + ((rd_T54 l0 x4_1).f0).size) = False := eq_false (Nat.not_lt.2 c13)
       by_cases c14 : (x3_1 ++ ((rd_T54 l0 x4_1).f0)).size + 1 ≤ 9223372036854775807
       ·rw [if_pos c14] at H
        have c14b0 := eq_true c14
        have c14b1 : decide ((x3_1 ++ ((rd_T54 l0 x4_1).f0)).size + 1 ≤ 9223372036854775807) = true := decide_eq_true c14
        try have c14b2 : (9223372036854775807 < (x3_1 ++ ((rd_T54 l0 x4_1).f0)).size + 1) = False := eq_false (Nat.not_lt.2 c14)
        try (have c14b3 : (9223372036854775807 < (x3_1 ++ ((rd_T54 l0 x4_1).f0)).size + 1) = False := eq_false (Nat.not_lt.2 c14); simp only [ByteArray.size_append, Nat.add_zero, Nat.zero_add] at c14b3)
        replace H := Option.bind_eq_some_iff.mp H
        obtain ⟨t363, A150, H⟩ := H
        replace H : (if ((x3_1 ++ ((rd_T54 l0 x4_1).f0)) ++ (⟨#[61]⟩ : ByteArray)).size + t363.size ≤ 9223372036854775807 then (archivistref10_Put.l0 k1 l0 (((x3_1 ++ ((rd_T54 l0 x4_1).f0)) ++ (⟨#[61]⟩ : ByteArray)) ++ t363) (wrap64 (x4_1 + 1))) else (none)) = some r := H
        have A15 := Aside0.mk A150
        clear A150
        by_cases c16 : ((x3_1 ++ ((rd_T54 l0 x4_1).f0)) ++ (⟨#[61]⟩ : ByteArray)).size + t363.size ≤ 9223372036854775807
        ·rw [if_pos c16] at H
         have c16b0 := eq_true c16
         have c16b1 : decide (((x3_1 ++ ((rd_T54 l0 x4_1).f0)) ++ (⟨#[61]⟩ : ByteArray)).size + t363.size ≤ 9223372036854775807) = true := decide_eq_true c16
         try have c16b2 : (9223372036854775807 < ((x3_1 ++ ((rd_T54 l0 x4_1).f0)) ++ (⟨#[61]⟩ : ByteArray)).size + t363.size) = False := eq_false (Nat.not_lt.2 c16)
         try (have c16b3 : (9223372036854775807 < ((x3_1 ++ ((rd_T54 l0 x4_1).f0)) ++ (⟨#[61]⟩ : ByteArray)).size + t363.size) = False := eq_false (Nat.not_lt.2 c16); simp only [ByteArray.size_append, show (⟨#[61]⟩ : ByteArray).size = 1 from rfl, Nat.add_zero, Nat.zero_add] at c16b3)
         have H' := Aside0.mk H
         clear H
         try go_wp2
         have n0_ := Aside0.mk (below_drew1 HB.out)
         clear HB
         have HB := n0_
         clear n0_
         have p361 : 0 ≤ (x4_1 : Int) := od
         have q361 : x4_1 < (l0.length : Int) := od
         obtain ⟨ad361, e361, hx361_0, hx361_1⟩ := at_T54 HR0.out x4_1 p361 q361
         have hw361_1 := hx361_1
         have hw361_0 := hx361_0
         cases e361
         replace hx361_0 := cu HB.out hx361_0
         replace hx361_1 := cu HB.out hx361_1
         replace p361 := eq_true p361
         replace q361 := eq_true q361
         have p362 : 0 ≤ (x4_1 : Int) := od
         have q362 : x4_1 < (l0.length : Int) := od
         obtain ⟨ad362, e362, hx362_0, hx362_1⟩ := at_T54 HR0.out x4_1 p362 q362
         have hw362_1 := hx362_1
         have hw362_0 := hx362_0
         obtain rfl : ad361 = ad362 := (by injection e362)
         replace hx362_0 := cu HB.out hx362_0
         replace hx362_1 := cu HB.out hx362_1
         replace p362 := eq_true p362
         replace q362 := eq_true q362
         refine start_ (n := 16) (S := fun w' => w'.cell? (ad361.add ((x4_1).toNat * 2)) = some (.string ((rd_T54 l0 x4_1).f0)) ∧ w'.cell? ⟨(ad361.add ((x4_1).toNat * 2)).block, (ad361.add ((x4_1).toNat * 2)).off + 1, none⟩ = some (.string ((rd_T54 l0 x4_1).f1)) ∧ w'.cell? (ad361.add ((x4_1).toNat * 2)) = some (.string ((rd_T54 l0 x4_1).f0)) ∧ w'.cell? ⟨(ad361.add ((x4_1).toNat * 2)).block, (ad361.add ((x4_1).toNat * 2)).off + 1, none⟩ = some (.string ((rd_T54 l0 x4_1).f1))) (ds := []) #[N_,N_,N_,N_,N_,N_,N_,N_,N_,N_,N_,N_,N_,N_,N_,N_] (by kernel_rfl) rfl rfl ⟨(cu HB.out hw361_0 :), (cu HB.out hw361_1 :), (cu HB.out hw362_0 :), (cu HB.out hw362_1 :)⟩ (fun hHeld => ?_); refine with_tabW archivistref10_Put.tab7 archivistref10_Put.bits7 (fun HT_ HW_ => ?_)
         generalize wr.drew = w17 at HB hx361_0 hx361_1 hx362_0 hx362_1 hHeld ⊢
         refine pY 0 15 #[J_,N_,N_,N_,N_,N_,N_,N_,N_,N_,N_,N_,N_,N_,N_,N_] HT_.out ?_
         refine pY 1 16 #[J_,J_,N_,N_,N_,N_,N_,N_,N_,N_,N_,N_,N_,N_,N_,N_] HT_.out ?_
         refine pY 2 17 #[J_,J_,J_,N_,N_,N_,N_,N_,N_,N_,N_,N_,N_,N_,N_,N_] HT_.out ?_
         refine pY 3 18 #[J_,J_,J_,J_,N_,N_,N_,N_,N_,N_,N_,N_,N_,N_,N_,N_] HT_.out ?_
         refine pY 4 19 #[J_,J_,J_,J_,J_,N_,N_,N_,N_,N_,N_,N_,N_,N_,N_,N_] HT_.out ?_
         refine pY 8 23 #[J_,J_,J_,J_,J_,N_,N_,N_,J_,N_,N_,N_,N_,N_,N_,N_] HT_.out ?_
         refine pY 9 24 #[J_,J_,J_,J_,J_,N_,N_,N_,J_,J_,N_,N_,N_,N_,N_,N_] HT_.out ?_
         refine pY 10 25 #[J_,J_,J_,J_,J_,N_,N_,N_,J_,J_,J_,N_,N_,N_,N_,N_] HT_.out ?_
         refine pY 11 26 #[J_,J_,J_,J_,J_,N_,N_,N_,J_,J_,J_,J_,N_,N_,N_,N_] HT_.out ?_
         refine take_ (i := 5) (N := some 20) (v := ?_) (a' := ?_) #[J_,J_,J_,J_,J_,J_,N_,N_,J_,J_,J_,J_,N_,N_,N_,N_] rfl rfl (take_ofW HT_.out HW_.out (by kernel_rfl)) (fun _ _ _ h => h) (Or.inl ⟨by rfl, ?_⟩) hHeld ?_ ?_
         rotate_left
         ·rintro w' ⟨s0, s1, s2, s3⟩
          go_simp
          with_reducible rfl
         rotate_left
         ·simp only [Act.put, List.setIfInBounds_toArray, List.set_cons_zero, List.set_cons_succ, i64_w, i32_w]
          rfl
         refine pY 6 21 #[J_,J_,J_,J_,J_,J_,J_,N_,J_,J_,J_,J_,N_,N_,N_,N_] HT_.out ?_
         refine pY 7 22 #[J_,J_,J_,J_,J_,J_,J_,J_,J_,J_,J_,J_,N_,N_,N_,N_] HT_.out ?_
         refine take_ (i := 12) (N := some 27) (v := ?_) (a' := ?_) #[J_,J_,J_,J_,J_,J_,J_,J_,J_,J_,J_,J_,J_,N_,N_,N_] rfl rfl (take_ofW HT_.out HW_.out (by kernel_rfl)) (fun _ _ _ h => h) (Or.inl ⟨by rfl, ?_⟩) hHeld ?_ ?_
         rotate_left
         ·rintro w' ⟨s0, s1, s2, s3⟩
          go_simp
          with_reducible rfl
         rotate_left
         ·simp only [Act.put, List.setIfInBounds_toArray, List.set_cons_zero, List.set_cons_succ, i64_w, i32_w]
          rfl
         refine one_ (i := 13) (N := some 28) #[J_,J_,J_,J_,J_,J_,J_,J_,J_,J_,J_,J_,J_,J_,N_,N_] rfl rfl (one_of HT_.out (by kernel_rfl)) (by decide) (fun K hK => ?_)
         refine goes_ Try.func33 (by kernel_rfl) rfl #[.string ((rd_T54 l0 x4_1).f1)] (by rfl) rfl rfl ml ?_
         with_reducible refine (archivistref01_Put.calls _ _ _ _ A15.out).mono ?_
         rintro e w18 ⟨rfl, hb⟩
         refine ⟨_, rfl, ?_⟩
         have n0_ := Aside0.mk (below_step bl hb)
         clear HB
         have HB := n0_
         clear n0_
         (try clear hb)
         (try clear hb2)
         (try clear hk)
         (try clear hi)
         refine hK.out _ _ ⟨(cu HB.out hw361_0 :), (cu HB.out hw361_1 :), (cu HB.out hw362_0 :), (cu HB.out hw362_1 :)⟩ (fun hHeld => ?_)
         clear hK K
         refine norm_ (a' := ?_) ?_ ?_
         rotate_left
         ·show Act.put _ (some 28) _ = _
          simp only [Act.put, List.setIfInBounds_toArray, List.set_cons_zero, List.set_cons_succ, i64_w, i32_w]
          rfl
         refine pY 14 29 #[J_,J_,J_,J_,J_,J_,J_,J_,J_,J_,J_,J_,J_,J_,J_,N_] HT_.out ?_
         refine pY 15 3 #[J_,J_,J_,J_,J_,J_,J_,J_,J_,J_,J_,J_,J_,J_,J_,J_] HT_.out ?_
         refine done_ (done_of HT_.out (by kernel_rfl)) ?_
         try go_wp2
         go_roundg k1
         case measure => have := HK1.out; omega
         case rel => exact ⟨(((x3_1 ++ ((rd_T54 l0 x4_1).f0)) ++ (⟨#[61]⟩ : ByteArray)) ++ t363), (wrap64 (x4_1 + 1)), rs, rs, H', ⟨by have := HK1.out; omega⟩, ⟨bl⟩⟩
        ·rw [if_neg c16] at H
         exact absurd H (by simp)
       ·rw [if_neg c14] at H
        exact absurd H (by simp)
      ·rw [if_neg c13] at H
       exact absurd H (by simp)
     ·rw [if_neg c12] at H
      exact absurd H (by simp)
   ·rw [if_neg c2] at H
    have c2b0 : decide (x4_1 < (l0.length : Int)) = false := decide_eq_false c2
    clear c2
    obtain rfl := Option.some.inj H
    go_wp2
    go_ret
    exact ⟨by first | rfl | (simp [errW_none, errW_some] <;> rfl) | (simp [*, errW_none, errW_some] <;> rfl), bl⟩

end Go.Proofs.Ytielpefbgdilaaa.X
