-- Laid by xprint.py, a program of this session's, out of the translation.
import Derived.Test.YtbkhgldinmabiaaX0
import Derived.Test.YtbkhgldinmabiaaX20
namespace Go.Proofs.Ytbkhgldinmabiaa.X
open Go.RowKit Go.Proofs.YtbkhgldinmabiaaW.PrintWords Go.Proofs.YtbkhgldinmabiaaW.PrintLast Go.Proofs.YtbkhgldinmabiaaW.PrintMore
attribute [local go_sem] max2_int min2_int max_two min_two max_three min_three max_four min_four x_isSome x_str_gtr x_str_leq x_str_geq   -- for this text's walks alone
set_option linter.unusedVariables false
set_option linter.unusedSimpArgs false

/-! ### archivistref06_Text: function 30 -/
def archivistref06_Text.l0 : Nat → List (S38) → ByteArray → Int → Option (ByteArray)
 | 0, _, _, _ => none
 | k + 1, x0, x3, x4 => if x4 < (x0.length : Int) then (if x4 > 0 then (if x3.size + 1 ≤ 9223372036854775807 then (if 0 ≤ x4 then (if (x3 ++ (⟨#[44]⟩ : ByteArray)).size + ((rd_T38 x0 x4).f0).size ≤ 9223372036854775807 then (if ((x3 ++ (⟨#[44]⟩ : ByteArray)) ++ ((rd_T38 x0 x4).f0)).size + 1 ≤ 9223372036854775807 then ((archivistref01_Put.f k ((rd_T38 x0 x4).f1)).bind fun t396 => (if (((x3 ++ (⟨#[44]⟩ : ByteArray)) ++ ((rd_T38 x0 x4).f0)) ++ (⟨#[61]⟩ : ByteArray)).size + t396.size ≤ 9223372036854775807 then (archivistref06_Text.l0 k x0 ((((x3 ++ (⟨#[44]⟩ : ByteArray)) ++ ((rd_T38 x0 x4).f0)) ++ (⟨#[61]⟩ : ByteArray)) ++ t396) (wrap64 (x4 + 1))) else (none))) else (none)) else (none)) else (none)) else (none)) else (if 0 ≤ x4 then (if x3.size + ((rd_T38 x0 x4).f0).size ≤ 9223372036854775807 then (if (x3 ++ ((rd_T38 x0 x4).f0)).size + 1 ≤ 9223372036854775807 then ((archivistref01_Put.f k ((rd_T38 x0 x4).f1)).bind fun t399 => (if ((x3 ++ ((rd_T38 x0 x4).f0)) ++ (⟨#[61]⟩ : ByteArray)).size + t399.size ≤ 9223372036854775807 then (archivistref06_Text.l0 k x0 (((x3 ++ ((rd_T38 x0 x4).f0)) ++ (⟨#[61]⟩ : ByteArray)) ++ t399) (wrap64 (x4 + 1))) else (none))) else (none)) else (none)) else (none))) else (if x3.size + 1 ≤ 9223372036854775807 then (some (x3 ++ (⟨#[125]⟩ : ByteArray))) else (none))
def archivistref06_Text.f (k : Nat) (l0 : List (S38)) : Option (ByteArray) := archivistref06_Text.l0 k l0 (⟨#[123]⟩ : ByteArray) 0
theorem archivistref06_Text.mono_l : ∀ k, (∀ y0 y1 y2, LeO (archivistref06_Text.l0 k y0 y1 y2) (archivistref06_Text.l0 (k + 1) y0 y1 y2))
 | 0 => fun _ _ _ r h => by simp [archivistref06_Text.l0] at h
 | k + 1 => by
  have ih0 := archivistref06_Text.mono_l k
  ·intro y0 y1 y2
   unfold archivistref06_Text.l0
   repeat' first
   | (with_reducible exact ih0 _ _ _)
   | (with_reducible exact archivistref01_Put.mono _ _)
   | (with_reducible exact LeO.refl _)
   | (with_reducible exact LeO.none _)
   | (with_reducible refine LeO.ite ?_ ?_)
   | (with_reducible refine LeO.bind ?_ (fun _ => ?_))
   | exact ih0 _ _ _
   | exact archivistref01_Put.mono _ _
   | exact LeO.none _
   | refine LeO.ite ?_ ?_
   | refine LeO.bind ?_ (fun _ => ?_)
theorem archivistref06_Text.mono : ∀ a0 k, LeO (archivistref06_Text.f k a0) (archivistref06_Text.f (k + 1) a0) := by
 intro a0 k
 have ih0 := archivistref06_Text.mono_l k
 unfold archivistref06_Text.f
 repeat' first
   | (with_reducible exact ih0 _ _ _)
   | (with_reducible exact archivistref01_Put.mono _ _)
   | (with_reducible exact LeO.refl _)
   | (with_reducible exact LeO.none _)
   | (with_reducible refine LeO.ite ?_ ?_)
   | (with_reducible refine LeO.bind ?_ (fun _ => ?_))
   | exact ih0 _ _ _
   | exact archivistref01_Put.mono _ _
   | exact LeO.none _
   | refine LeO.ite ?_ ?_
   | refine LeO.bind ?_ (fun _ => ?_)
def archivistref06_Text.T7 : Bool × List (List Nat × List Nat) := (true, [([], []), ([], []), ([], []), ([1, 2], [1, 2]), ([3], [3]), ([4], [4]), ([0, 5], [0, 5]), ([6], [6]), ([], []), ([], []), ([8, 9], [8, 9]), ([10], [10]), ([11], [11]), ([12], [12]), ([7, 13], [7, 13]), ([14, 13, 0, 1, 2, 3, 4, 5, 6, 7, 8, 9, 10, 11, 12, 13, 14], [0, 14])])
def archivistref06_Text.B7 : List Nat := [0, 0, 0, 6, 14, 30, 63, 127, 0, 0, 768, 1792, 3840, 7936, 16383, 32767]
theorem archivistref06_Text.tab7 : rtab .any (opsOf Try.f30 7) = archivistref06_Text.T7 := by kernel_rfl
theorem archivistref06_Text.bits7 : waitsOk archivistref06_Text.T7.2 archivistref06_Text.B7 = true := by kernel_rfl
set_option maxHeartbeats 8000000 in
set_option maxRecDepth 100000 in
theorem archivistref06_Text.calls (k : Nat) (A0 : Option Addr) (c0 : Nat) (l0 : List (S38)) (r : ByteArray) (w : World) (hr0 : Kd.C k38 w A0 l0.length l0) (hc0 : l0.length ≤ c0) (h : archivistref06_Text.f k l0 = some r) :
  Calls Try.prog 30 #[.slice A0 l0.length c0] w fun e w' => e = .returned (.string r) ∧ Below w.heap.size w w' := by
 have HR0 := Aside0.mk hr0
 have HC0 := Aside0.mk hc0
 clear hr0 hc0
 have HB := Aside0.mk (Below.refl w.heap.size w)
 have H : (archivistref06_Text.l0 k l0 (⟨#[123]⟩ : ByteArray) 0) = some r := h
 clear h
 have H' := Aside0.mk H
 clear H
 go_enter Try.func30, Try.ntmps30
 go_wp2
 go_loopg [3, 4] k (fun kq v3 v4 w' => ∃ (x3_1 : ByteArray) (x4_1 : Int), v3 = .string x3_1 ∧ v4 = .int .i64 x4_1 ∧ Aside0 (archivistref06_Text.l0 kq l0 x3_1 x4_1 = some r) ∧ Aside0 (kq ≤ k) ∧ Aside0 (Below w.heap.size w w'))
 case atStart => exact ⟨((⟨#[123]⟩ : ByteArray)), (0), rs, rs, H', ⟨Nat.le_refl _⟩, ⟨bl⟩⟩
 case round =>
  clear H'
  obtain ⟨x3_1, x4_1, rfl, rfl, HA, HK1, HB⟩ := hrel
  cases gk with
  | zero => exact absurd HA.out (by simp [archivistref06_Text.l0])
  | succ k1 =>
   have H := HA.out
   clear HA
   simp only [archivistref06_Text.l0] at H
   by_cases c2 : x4_1 < (l0.length : Int)
   ·rw [if_pos c2] at H
    have c2b0 := decide_eq_true c2
    clear c2
    by_cases c3 : x4_1 > 0
    ·rw [if_pos c3] at H
     have c3b0 := decide_eq_true c3
     clear c3
     by_cases c4 : x3_1.size + 1 ≤ 9223372036854775807
     ·rw [if_pos c4] at H
      have c4b0 := eq_true c4
      have c4b1 : decide (x3_1.size + 1 ≤ 9223372036854775807) = true := decide_eq_true c4
      try have c4b2 : (9223372036854775807 < x3_1.size + 1) = False := eq_false (Nat.not_lt.2 c4)
      by_cases c5 : 0 ≤ x4_1
      ·rw [if_pos c5] at H
       have c5b0 := decide_eq_true c5
       clear c5
       by_cases c6 : (x3_1 ++ (⟨#[44]⟩ : ByteArray)).size + ((rd_T38 l0 x4_1).f0).size ≤ 9223372036854775807
       ·rw [if_pos c6] at H
        have c6b0 := eq_true c6
        have c6b1 : decide ((x3_1 ++ (⟨#[44]⟩ : ByteArray)).size + ((rd_T38 l0 x4_1).f0).size ≤ 9223372036854775807) = true := decide_eq_true c6
        try have c6b2 : (9223372036854775807 < (x3_1 ++ (⟨#[44]⟩ : ByteArray)).size + ((rd_T38 l0 x4_1).f0).size) = False := eq_false (Nat.not_lt.2 c6)
        try (have c6b3 : (9223372036854775807 < (x3_1 ++ (⟨#[44]⟩ : ByteArray)).size + ((rd_T38 l0 x4_1).f0).size) = False := eq_false (Nat.not_lt.2 c6); simp only [ByteArray.size_append, show (⟨#[44]⟩ : ByteArray).size = 1 from rfl, Nat.add_zero, Nat.zero_add] at c6b3)
        by_cases c7 : ((x3_1 ++ (⟨#[44]⟩ : ByteArray)) ++ ((rd_T38 l0 x4_1).f0)).size + 1 ≤ 9223372036854775807
        ·rw [if_pos c7] at H
         have c7b0 := eq_true c7
         have c7b1 : decide (((x3_1 ++ (⟨#[44]⟩ : ByteArray)) ++ ((rd_T38 l0 x4_1).f0)).size + 1 ≤ 9223372036854775807) = true := decide_eq_true c7
         try have c7b2 : (9223372036854775807 < ((x3_1 ++ (⟨#[44]⟩ : ByteArray)) ++ ((rd_T38 l0 x4_1).f0)).size + 1) = False := eq_false (Nat.not_lt.2 c7)
         try (have c7b3 : (9223372036854775807 < ((x3_1 ++ (⟨#[44]⟩ : ByteArray)) ++ ((rd_T38 l0 x4_1).f0)).size + 1) = False := eq_false (Nat.not_lt.2 c7); simp only [ByteArray.size_append, show (⟨#[44]⟩ : ByteArray).size = 1 from rfl, Nat.add_zero, Nat.zero_add] at c7b3)
         replace H := Option.bind_eq_some_iff.mp H
         obtain ⟨t396, A80, H⟩ := H
         replace H : (if (((x3_1 ++ (⟨#[44]⟩ : ByteArray)) ++ ((rd_T38 l0 x4_1).f0)) ++ (⟨#[61]⟩ : ByteArray)).size + t396.size ≤ 9223372036854775807 then (archivistref06_Text.l0 k1 l0 ((((x3_1 ++ (⟨#[44]⟩ : ByteArray)) ++ ((rd_T38 l0 x4_1).f0)) ++ (⟨#[61]⟩ : ByteArray)) ++ t396) (wrap64 (x4_1 + 1))) else (none)) = some r := H
         have A8 := Aside0.mk A80
         clear A80
         by_cases c9 : (((x3_1 ++ (⟨#[44]⟩ : ByteArray)) ++ ((rd_T38 l0 x4_1).f0)) ++ (⟨#[61]⟩ : ByteArray)).size + t396.size ≤ 9223372036854775807
         ·rw [if_pos c9] at H
          have c9b0 := eq_true c9
          have c9b1 : decide ((((x3_1 ++ (⟨#[44]⟩ : ByteArray)) ++ ((rd_T38 l0 x4_1).f0)) ++ (⟨#[61]⟩ : ByteArray)).size + t396.size ≤ 9223372036854775807) = true := decide_eq_true c9
          try have c9b2 : (9223372036854775807 < (((x3_1 ++ (⟨#[44]⟩ : ByteArray)) ++ ((rd_T38 l0 x4_1).f0)) ++ (⟨#[61]⟩ : ByteArray)).size + t396.size) = False := eq_false (Nat.not_lt.2 c9)
          try (have c9b3 : (9223372036854775807 < (((x3_1 ++ (⟨#[44]⟩ : ByteArray)) ++ ((rd_T38 l0 x4_1).f0)) ++ (⟨#[61]⟩ : ByteArray)).size + t396.size) = False := eq_false (Nat.not_lt.2 c9); simp only [ByteArray.size_append, show (⟨#[44]⟩ : ByteArray).size = 1 from rfl, show (⟨#[61]⟩ : ByteArray).size = 1 from rfl, Nat.add_zero, Nat.zero_add] at c9b3)
          have H' := Aside0.mk H
          clear H
          try go_wp2
          have n0_ := Aside0.mk (below_drew1 HB.out)
          clear HB
          have HB := n0_
          clear n0_
          have p394 : 0 ≤ (x4_1 : Int) := od
          have q394 : x4_1 < (l0.length : Int) := od
          obtain ⟨ad394, e394, hx394_0, hx394_1⟩ := at_T38 HR0.out x4_1 p394 q394
          have hw394_1 := hx394_1
          have hw394_0 := hx394_0
          cases e394
          replace hx394_0 := cu HB.out hx394_0
          replace hx394_1 := cu HB.out hx394_1
          replace p394 := eq_true p394
          replace q394 := eq_true q394
          have p395 : 0 ≤ (x4_1 : Int) := od
          have q395 : x4_1 < (l0.length : Int) := od
          obtain ⟨ad395, e395, hx395_0, hx395_1⟩ := at_T38 HR0.out x4_1 p395 q395
          have hw395_1 := hx395_1
          have hw395_0 := hx395_0
          obtain rfl : ad394 = ad395 := (by injection e395)
          replace hx395_0 := cu HB.out hx395_0
          replace hx395_1 := cu HB.out hx395_1
          replace p395 := eq_true p395
          replace q395 := eq_true q395
          refine start_ (n := 16) (S := fun w' => w'.cell? (ad394.add ((x4_1).toNat * 2)) = some (.string ((rd_T38 l0 x4_1).f0)) ∧ w'.cell? ⟨(ad394.add ((x4_1).toNat * 2)).block, (ad394.add ((x4_1).toNat * 2)).off + 1, none⟩ = some (.string ((rd_T38 l0 x4_1).f1)) ∧ w'.cell? (ad394.add ((x4_1).toNat * 2)) = some (.string ((rd_T38 l0 x4_1).f0)) ∧ w'.cell? ⟨(ad394.add ((x4_1).toNat * 2)).block, (ad394.add ((x4_1).toNat * 2)).off + 1, none⟩ = some (.string ((rd_T38 l0 x4_1).f1))) (ds := []) #[N_,N_,N_,N_,N_,N_,N_,N_,N_,N_,N_,N_,N_,N_,N_,N_] (by kernel_rfl) rfl rfl ⟨(cu HB.out hw394_0 :), (cu HB.out hw394_1 :), (cu HB.out hw395_0 :), (cu HB.out hw395_1 :)⟩ (fun hHeld => ?_); refine with_tabW archivistref06_Text.tab7 archivistref06_Text.bits7 (fun HT_ HW_ => ?_)
          generalize wr.drew = w10 at HB hx394_0 hx394_1 hx395_0 hx395_1 hHeld ⊢
          refine pY 0 15 #[J_,N_,N_,N_,N_,N_,N_,N_,N_,N_,N_,N_,N_,N_,N_,N_] HT_.out ?_
          refine pY 1 16 #[J_,J_,N_,N_,N_,N_,N_,N_,N_,N_,N_,N_,N_,N_,N_,N_] HT_.out ?_
          refine pY 2 17 #[J_,J_,J_,N_,N_,N_,N_,N_,N_,N_,N_,N_,N_,N_,N_,N_] HT_.out ?_
          refine pY 3 18 #[J_,J_,J_,J_,N_,N_,N_,N_,N_,N_,N_,N_,N_,N_,N_,N_] HT_.out ?_
          refine pY 4 19 #[J_,J_,J_,J_,J_,N_,N_,N_,N_,N_,N_,N_,N_,N_,N_,N_] HT_.out ?_
          refine pY 8 23 #[J_,J_,J_,J_,J_,N_,N_,N_,J_,N_,N_,N_,N_,N_,N_,N_] HT_.out ?_
          refine pY 9 24 #[J_,J_,J_,J_,J_,N_,N_,N_,J_,J_,N_,N_,N_,N_,N_,N_] HT_.out ?_
          refine pY 10 25 #[J_,J_,J_,J_,J_,N_,N_,N_,J_,J_,J_,N_,N_,N_,N_,N_] HT_.out ?_
          refine pY 11 26 #[J_,J_,J_,J_,J_,N_,N_,N_,J_,J_,J_,J_,N_,N_,N_,N_] HT_.out ?_
          refine take_ (i := 5) (N := some 20) (v := ?_) (a' := ?_) #[J_,J_,J_,J_,J_,J_,N_,N_,J_,J_,J_,J_,N_,N_,N_,N_] rfl rfl (take_ofW HT_.out HW_.out (by kernel_rfl)) (fun _ _ _ h => h) (Or.inl ⟨by rfl, ?_⟩) hHeld ?_ ?_
          rotate_left
          ·rintro w' ⟨s0, s1, s2, s3⟩
           go_simp
           with_reducible rfl
          rotate_left
          ·simp only [Act.put, List.setIfInBounds_toArray, List.set_cons_zero, List.set_cons_succ, i64_w, i32_w]
           rfl
          refine pY 6 21 #[J_,J_,J_,J_,J_,J_,J_,N_,J_,J_,J_,J_,N_,N_,N_,N_] HT_.out ?_
          refine pY 7 22 #[J_,J_,J_,J_,J_,J_,J_,J_,J_,J_,J_,J_,N_,N_,N_,N_] HT_.out ?_
          refine take_ (i := 12) (N := some 27) (v := ?_) (a' := ?_) #[J_,J_,J_,J_,J_,J_,J_,J_,J_,J_,J_,J_,J_,N_,N_,N_] rfl rfl (take_ofW HT_.out HW_.out (by kernel_rfl)) (fun _ _ _ h => h) (Or.inl ⟨by rfl, ?_⟩) hHeld ?_ ?_
          rotate_left
          ·rintro w' ⟨s0, s1, s2, s3⟩
           go_simp
           with_reducible rfl
          rotate_left
          ·simp only [Act.put, List.setIfInBounds_toArray, List.set_cons_zero, List.set_cons_succ, i64_w, i32_w]
           rfl
          refine one_ (i := 13) (N := some 28) #[J_,J_,J_,J_,J_,J_,J_,J_,J_,J_,J_,J_,J_,J_,N_,N_] rfl rfl (one_of HT_.out (by kernel_rfl)) (by decide) (fun K hK => ?_)
          refine goes_ Try.func57 (by kernel_rfl) rfl #[.string ((rd_T38 l0 x4_1).f1)] (by rfl) rfl rfl ml ?_
          with_reducible refine (archivistref01_Put.calls _ _ _ _ A8.out).mono ?_
          rintro e w11 ⟨rfl, hb⟩
          refine ⟨_, rfl, ?_⟩
          have n0_ := Aside0.mk (below_step bl hb)
          clear HB
          have HB := n0_
          clear n0_
          (try clear hb)
          (try clear hb2)
          (try clear hk)
          (try clear hi)
          refine hK.out _ _ ⟨(cu HB.out hw394_0 :), (cu HB.out hw394_1 :), (cu HB.out hw395_0 :), (cu HB.out hw395_1 :)⟩ (fun hHeld => ?_)
          clear hK K
          refine norm_ (a' := ?_) ?_ ?_
          rotate_left
          ·show Act.put _ (some 28) _ = _
           simp only [Act.put, List.setIfInBounds_toArray, List.set_cons_zero, List.set_cons_succ, i64_w, i32_w]
           rfl
          refine pY 14 29 #[J_,J_,J_,J_,J_,J_,J_,J_,J_,J_,J_,J_,J_,J_,J_,N_] HT_.out ?_
          refine pY 15 3 #[J_,J_,J_,J_,J_,J_,J_,J_,J_,J_,J_,J_,J_,J_,J_,J_] HT_.out ?_
          refine done_ (done_of HT_.out (by kernel_rfl)) ?_
          try go_wp2
          go_roundg k1
          case measure => have := HK1.out; omega
          case rel => exact ⟨((((x3_1 ++ (⟨#[44]⟩ : ByteArray)) ++ ((rd_T38 l0 x4_1).f0)) ++ (⟨#[61]⟩ : ByteArray)) ++ t396), (wrap64 (x4_1 + 1)), rs, rs, H', ⟨by have := HK1.out; omega⟩, ⟨bl⟩⟩
         ·rw [if_neg c9] at H
          exact absurd H (by simp)
        ·rw [if_neg c7] at H
         exact absurd H (by simp)
       ·rw [if_neg c6] at H
        exact absurd H (by simp)
      ·rw [if_neg c5] at H
       exact absurd H (by simp)
     ·rw [if_neg c4] at H
      exact absurd H (by simp)
    ·rw [if_neg c3] at H
     have c3b0 : decide (0 < x4_1) = false := decide_eq_false c3
     clear c3
     by_cases c12 : 0 ≤ x4_1
     ·rw [if_pos c12] at H
      have c12b0 := decide_eq_true c12
      clear c12
      by_cases c13 : x3_1.size + ((rd_T38 l0 x4_1).f0).size ≤ 9223372036854775807
      ·rw [if_pos c13] at H
       have c13b0 := eq_true c13
       have c13b1 : decide (x3_1.size + ((rd_T38 l0 x4_1).f0).size ≤ 9223372036854775807) = true := decide_eq_true c13
       try have c13b2 : (9223372036854775807 < x3_1.size + ((rd_T38 l0 x4_1).f0).size) = False := eq_false (Nat.not_lt.2 c13)
       by_cases c14 : (x3_1 ++ ((rd_T38 l0 x4_1).f0)).size + 1 ≤ 9223372036854775807
       ·rw [if_pos c14] at H
        have c14b0 := eq_true c14
        have c14b1 : decide ((x3_1 ++ ((rd_T38 l0 x4_1).f0)).size + 1 ≤ 9223372036854775807) = true := decide_eq_true c14
        try have c14b2 : (9223372036854775807 < (x3_1 ++ ((rd_T38 l0 x4_1).f0)).size + 1) = False := eq_false (Nat.not_lt.2 c14)
        try (have c14b3 : (9223372036854775807 < (x3_1 ++ ((rd_T38 l0 x4_1).f0)).size + 1) = False := eq_false (Nat.not_lt.2 c14); simp only [ByteArray.size_append, Nat.add_zero, Nat.zero_add] at c14b3)
        replace H := Option.bind_eq_some_iff.mp H
        obtain ⟨t399, A150, H⟩ := H
        replace H : (if ((x3_1 ++ ((rd_T38 l0 x4_1).f0)) ++ (⟨#[61]⟩ : ByteArray)).size + t399.size ≤ 9223372036854775807 then (archivistref06_Text.l0 k1 l0 (((x3_1 ++ ((rd_T38 l0 x4_1).f0)) ++ (⟨#[61]⟩ : ByteArray)) ++ t399) (wrap64 (x4_1 + 1))) else (none)) = some r := H
        have A15 := Aside0.mk A150
        clear A150
        by_cases c16 : ((x3_1 ++ ((rd_T38 l0 x4_1).f0)) ++ (⟨#[61]⟩ : ByteArray)).size + t399.size ≤ 9223372036854775807
        ·rw [if_pos c16] at H
         have c16b0 := eq_true c16
         have c16b1 : decide (((x3_1 ++ ((rd_T38 l0 x4_1).f0)) ++ (⟨#[61]⟩ : ByteArray)).size + t399.size ≤ 9223372036854775807) = true := decide_eq_true c16
         try have c16b2 : (9223372036854775807 < ((x3_1 ++ ((rd_T38 l0 x4_1).f0)) ++ (⟨#[61]⟩ : ByteArray)).size + t399.size) = False := eq_false (Nat.not_lt.2 c16)
         try (have c16b3 : (9223372036854775807 < ((x3_1 ++ ((rd_T38 l0 x4_1).f0)) ++ (⟨#[61]⟩ : ByteArray)).size + t399.size) = False := eq_false (Nat.not_lt.2 c16); simp only [ByteArray.size_append, show (⟨#[61]⟩ : ByteArray).size = 1 from rfl, Nat.add_zero, Nat.zero_add] at c16b3)
         have H' := Aside0.mk H
         clear H
         try go_wp2
         have n0_ := Aside0.mk (below_drew1 HB.out)
         clear HB
         have HB := n0_
         clear n0_
         have p397 : 0 ≤ (x4_1 : Int) := od
         have q397 : x4_1 < (l0.length : Int) := od
         obtain ⟨ad397, e397, hx397_0, hx397_1⟩ := at_T38 HR0.out x4_1 p397 q397
         have hw397_1 := hx397_1
         have hw397_0 := hx397_0
         cases e397
         replace hx397_0 := cu HB.out hx397_0
         replace hx397_1 := cu HB.out hx397_1
         replace p397 := eq_true p397
         replace q397 := eq_true q397
         have p398 : 0 ≤ (x4_1 : Int) := od
         have q398 : x4_1 < (l0.length : Int) := od
         obtain ⟨ad398, e398, hx398_0, hx398_1⟩ := at_T38 HR0.out x4_1 p398 q398
         have hw398_1 := hx398_1
         have hw398_0 := hx398_0
         obtain rfl : ad397 = ad398 := (by injection e398)
         replace hx398_0 := cu HB.out hx398_0
         replace hx398_1 := cu HB.out hx398_1
         replace p398 := eq_true p398
         replace q398 := eq_true q398
         refine start_ (n := 16) (S := fun w' => w'.cell? (ad397.add ((x4_1).toNat * 2)) = some (.string ((rd_T38 l0 x4_1).f0)) ∧ w'.cell? ⟨(ad397.add ((x4_1).toNat * 2)).block, (ad397.add ((x4_1).toNat * 2)).off + 1, none⟩ = some (.string ((rd_T38 l0 x4_1).f1)) ∧ w'.cell? (ad397.add ((x4_1).toNat * 2)) = some (.string ((rd_T38 l0 x4_1).f0)) ∧ w'.cell? ⟨(ad397.add ((x4_1).toNat * 2)).block, (ad397.add ((x4_1).toNat * 2)).off + 1, none⟩ = some (.string ((rd_T38 l0 x4_1).f1))) (ds := []) #[N_,N_,N_,N_,N_,N_,N_,N_,N_,N_,N_,N_,N_,N_,N_,N_] (by kernel_rfl) rfl rfl ⟨(cu HB.out hw397_0 :), (cu HB.out hw397_1 :), (cu HB.out hw398_0 :), (cu HB.out hw398_1 :)⟩ (fun hHeld => ?_); refine with_tabW archivistref06_Text.tab7 archivistref06_Text.bits7 (fun HT_ HW_ => ?_)
         generalize wr.drew = w17 at HB hx397_0 hx397_1 hx398_0 hx398_1 hHeld ⊢
         refine pY 0 15 #[J_,N_,N_,N_,N_,N_,N_,N_,N_,N_,N_,N_,N_,N_,N_,N_] HT_.out ?_
         refine pY 1 16 #[J_,J_,N_,N_,N_,N_,N_,N_,N_,N_,N_,N_,N_,N_,N_,N_] HT_.out ?_
         refine pY 2 17 #[J_,J_,J_,N_,N_,N_,N_,N_,N_,N_,N_,N_,N_,N_,N_,N_] HT_.out ?_
         refine pY 3 18 #[J_,J_,J_,J_,N_,N_,N_,N_,N_,N_,N_,N_,N_,N_,N_,N_] HT_.out ?_
         refine pY 4 19 #[J_,J_,J_,J_,J_,N_,N_,N_,N_,N_,N_,N_,N_,N_,N_,N_] HT_.out ?_
         refine pY 8 23 #[J_,J_,J_,J_,J_,N_,N_,N_,J_,N_,N_,N_,N_,N_,N_,N_] HT_.out ?_
         refine pY 9 24 #[J_,J_,J_,J_,J_,N_,N_,N_,J_,J_,N_,N_,N_,N_,N_,N_] HT_.out ?_
         refine pY 10 25 #[J_,J_,J_,J_,J_,N_,N_,N_,J_,J_,J_,N_,N_,N_,N_,N_] HT_.out ?_
         refine pY 11 26 #[J_,J_,J_,J_,J_,N_,N_,N_,J_,J_,J_,J_,N_,N_,N_,N_] HT_.out ?_
         refine take_ (i := 5) (N := some 20) (v := ?_) (a' := ?_) #[J_,J_,J_,J_,J_,J_,N_,N_,J_,J_,J_,J_,N_,N_,N_,N_] rfl rfl (take_ofW HT_.out HW_.out (by kernel_rfl)) (fun _ _ _ h => h) (Or.inl ⟨by rfl, ?_⟩) hHeld ?_ ?_
         rotate_left
         ·rintro w' ⟨s0, s1, s2, s3⟩
          go_simp
          with_reducible rfl
         rotate_left
         ·simp only [Act.put, List.setIfInBounds_toArray, List.set_cons_zero, List.set_cons_succ, i64_w, i32_w]
          rfl
         refine pY 6 21 #[J_,J_,J_,J_,J_,J_,J_,N_,J_,J_,J_,J_,N_,N_,N_,N_] HT_.out ?_
         refine pY 7 22 #[J_,J_,J_,J_,J_,J_,J_,J_,J_,J_,J_,J_,N_,N_,N_,N_] HT_.out ?_
         refine take_ (i := 12) (N := some 27) (v := ?_) (a' := ?_) #[J_,J_,J_,J_,J_,J_,J_,J_,J_,J_,J_,J_,J_,N_,N_,N_] rfl rfl (take_ofW HT_.out HW_.out (by kernel_rfl)) (fun _ _ _ h => h) (Or.inl ⟨by rfl, ?_⟩) hHeld ?_ ?_
         rotate_left
         ·rintro w' ⟨s0, s1, s2, s3⟩
          go_simp
          with_reducible rfl
         rotate_left
         ·simp only [Act.put, List.setIfInBounds_toArray, List.set_cons_zero, List.set_cons_succ, i64_w, i32_w]
          rfl
         refine one_ (i := 13) (N := some 28) #[J_,J_,J_,J_,J_,J_,J_,J_,J_,J_,J_,J_,J_,J_,N_,N_] rfl rfl (one_of HT_.out (by kernel_rfl)) (by decide) (fun K hK => ?_)
         refine goes_ Try.func57 (by kernel_rfl) rfl #[.string ((rd_T38 l0 x4_1).f1)] (by rfl) rfl rfl ml ?_
         with_reducible refine (archivistref01_Put.calls _ _ _ _ A15.out).mono ?_
         rintro e w18 ⟨rfl, hb⟩
         refine ⟨_, rfl, ?_⟩
         have n0_ := Aside0.mk (below_step bl hb)
         clear HB
         have HB := n0_
         clear n0_
         (try clear hb)
         (try clear hb2)
         (try clear hk)
         (try clear hi)
         refine hK.out _ _ ⟨(cu HB.out hw397_0 :), (cu HB.out hw397_1 :), (cu HB.out hw398_0 :), (cu HB.out hw398_1 :)⟩ (fun hHeld => ?_)
         clear hK K
         refine norm_ (a' := ?_) ?_ ?_
         rotate_left
         ·show Act.put _ (some 28) _ = _
          simp only [Act.put, List.setIfInBounds_toArray, List.set_cons_zero, List.set_cons_succ, i64_w, i32_w]
          rfl
         refine pY 14 29 #[J_,J_,J_,J_,J_,J_,J_,J_,J_,J_,J_,J_,J_,J_,J_,N_] HT_.out ?_
         refine pY 15 3 #[J_,J_,J_,J_,J_,J_,J_,J_,J_,J_,J_,J_,J_,J_,J_,J_] HT_.out ?_
         refine done_ (done_of HT_.out (by kernel_rfl)) ?_
         try go_wp2
         go_roundg k1
         case measure => have := HK1.out; omega
         case rel => exact ⟨(((x3_1 ++ ((rd_T38 l0 x4_1).f0)) ++ (⟨#[61]⟩ : ByteArray)) ++ t399), (wrap64 (x4_1 + 1)), rs, rs, H', ⟨by have := HK1.out; omega⟩, ⟨bl⟩⟩
        ·rw [if_neg c16] at H
         exact absurd H (by simp)
       ·rw [if_neg c14] at H
        exact absurd H (by simp)
      ·rw [if_neg c13] at H
       exact absurd H (by simp)
     ·rw [if_neg c12] at H
      exact absurd H (by simp)
   ·rw [if_neg c2] at H
    have c2b0 : decide (x4_1 < (l0.length : Int)) = false := decide_eq_false c2
    clear c2
    by_cases c19 : x3_1.size + 1 ≤ 9223372036854775807
    ·rw [if_pos c19] at H
     have c19b0 := eq_true c19
     have c19b1 : decide (x3_1.size + 1 ≤ 9223372036854775807) = true := decide_eq_true c19
     try have c19b2 : (9223372036854775807 < x3_1.size + 1) = False := eq_false (Nat.not_lt.2 c19)
     obtain rfl := Option.some.inj H
     go_wp2
     go_ret
     exact ⟨by first | rfl | (simp [errW_none, errW_some] <;> rfl) | (simp [*, errW_none, errW_some] <;> rfl), bl⟩
    ·rw [if_neg c19] at H
     exact absurd H (by simp)

/-! ### archivistref06_less: function 62 -/
def archivistref06_less.f (a0 : ByteArray) (a1 : ByteArray) : Option (Int) := if (Op.bytesLess a0.toList a1.toList) = true then (some (-1)) else (if (Op.bytesLess a1.toList a0.toList) = true then (some 1) else (some 0))
set_option maxHeartbeats 8000000 in
set_option maxRecDepth 100000 in
theorem archivistref06_less.calls (a0 : ByteArray) (a1 : ByteArray) (r : Int) (w : World) (h : archivistref06_less.f a0 a1 = some r) :
  Calls Try.prog 62 #[.string a0, .string a1] w fun e w' => e = .returned (.int .i64 r) ∧ Drawn0 w w' := by
 have H : (if (Op.bytesLess a0.toList a1.toList) = true then (some (-1)) else (if (Op.bytesLess a1.toList a0.toList) = true then (some 1) else (some 0))) = some r := h
 clear h
 by_cases c3 : (Op.bytesLess a0.toList a1.toList) = true
 ·rw [if_pos c3] at H
  have c3b0 := c3
  have c3e1 : (a0.toList == a1.toList) = false := beq_eq_false_iff_ne.2 (x_less_ne c3b0)
  have c3e2 : (a1.toList == a0.toList) = false := beq_eq_false_iff_ne.2 (Ne.symm (x_less_ne c3b0))
  have c3e3 : Op.bytesLess a1.toList a0.toList = false := x_less_asym c3b0
  clear c3
  obtain rfl := Option.some.inj H
  go_enter Try.func62, Try.ntmps62
  go_wp2
  go_ret
  exact ⟨rs, dr⟩
 ·rw [if_neg c3] at H
  have c3b0 : (Op.bytesLess a0.toList a1.toList) = false := by simpa using c3
  clear c3
  by_cases c4 : (Op.bytesLess a1.toList a0.toList) = true
  ·rw [if_pos c4] at H
   have c4b0 := c4
   have c4e1 : (a1.toList == a0.toList) = false := beq_eq_false_iff_ne.2 (x_less_ne c4b0)
   have c4e2 : (a0.toList == a1.toList) = false := beq_eq_false_iff_ne.2 (Ne.symm (x_less_ne c4b0))
   have c4e3 : Op.bytesLess a0.toList a1.toList = false := x_less_asym c4b0
   clear c4
   obtain rfl := Option.some.inj H
   go_enter Try.func62, Try.ntmps62
   go_wp2
   go_ret
   exact ⟨rs, dr⟩
  ·rw [if_neg c4] at H
   have c4b0 : (Op.bytesLess a1.toList a0.toList) = false := by simpa using c4
   (try (have c4e1 : (a1.toList == a0.toList) = true := beq_iff_eq.2 (x_less_tri c4b0 c3b0)))
   (try (have c4e2 : (a0.toList == a1.toList) = true := beq_iff_eq.2 (x_less_tri c3b0 c4b0)))
   clear c4
   obtain rfl := Option.some.inj H
   go_enter Try.func62, Try.ntmps62
   go_wp2
   go_ret
   exact ⟨rs, dr⟩

end Go.Proofs.Ytbkhgldinmabiaa.X
