-- Laid by xprint.py, a program of this session's, out of the translation.
import Derived.Test.YtbkhgldinmabiaaX0
import Derived.Test.YtbkhgldinmabiaaX17
namespace Go.Proofs.Ytbkhgldinmabiaa.X
open Go.RowKit Go.Proofs.YtbkhgldinmabiaaW.PrintWords Go.Proofs.YtbkhgldinmabiaaW.PrintLast Go.Proofs.YtbkhgldinmabiaaW.PrintMore
attribute [local go_sem] max2_int min2_int max_two min_two max_three min_three max_four min_four x_isSome x_str_gtr x_str_leq x_str_geq   -- for this text's walks alone
set_option linter.unusedVariables false
set_option linter.unusedSimpArgs false

/-! ### archivistref06_Right: function 28 -/
def archivistref06_Right.l0 : Nat → List (S38) → Int → Option (Bool)
 | 0, _, _ => none
 | k + 1, x0, x3 => if x3 < (x0.length : Int) then (if 0 ≤ x3 then ((archivistref06_Name.f k ((rd_T38 x0 x3).f0)).bind fun t377 => (if t377 = true then (if (((rd_T38 x0 x3).f1).size : Int) > 256 then (some false) else (if x3 > 0 then (if 0 ≤ (wrap64 (x3 - 1)) then (if (wrap64 (x3 - 1)) < (x0.length : Int) then (if ((Op.bytesLess (((rd_T38 x0 (wrap64 (x3 - 1))).f0).toList) (((rd_T38 x0 x3).f0).toList)) = true) then (archivistref06_Right.l0 k x0 (wrap64 (x3 + 1))) else (some false)) else (none)) else (none)) else (archivistref06_Right.l0 k x0 (wrap64 (x3 + 1))))) else (some false))) else (none)) else (some true)
def archivistref06_Right.f (k : Nat) (l0 : List (S38)) : Option (Bool) := if (l0.length : Int) > 16 then (some false) else (archivistref06_Right.l0 k l0 0)
theorem archivistref06_Right.mono_l : ∀ k, (∀ y0 y1, LeO (archivistref06_Right.l0 k y0 y1) (archivistref06_Right.l0 (k + 1) y0 y1))
 | 0 => fun _ _ r h => by simp [archivistref06_Right.l0] at h
 | k + 1 => by
  have ih0 := archivistref06_Right.mono_l k
  ·intro y0 y1
   unfold archivistref06_Right.l0
   repeat' first
   | (with_reducible exact ih0 _ _)
   | (with_reducible exact archivistref06_Name.mono _ _)
   | (with_reducible exact LeO.refl _)
   | (with_reducible exact LeO.none _)
   | (with_reducible refine LeO.ite ?_ ?_)
   | (with_reducible refine LeO.bind ?_ (fun _ => ?_))
   | exact ih0 _ _
   | exact archivistref06_Name.mono _ _
   | exact LeO.none _
   | refine LeO.ite ?_ ?_
   | refine LeO.bind ?_ (fun _ => ?_)
theorem archivistref06_Right.mono : ∀ a0 k, LeO (archivistref06_Right.f k a0) (archivistref06_Right.f (k + 1) a0) := by
 intro a0 k
 have ih0 := archivistref06_Right.mono_l k
 unfold archivistref06_Right.f
 repeat' first
   | (with_reducible exact ih0 _ _)
   | (with_reducible exact archivistref06_Name.mono _ _)
   | (with_reducible exact LeO.refl _)
   | (with_reducible exact LeO.none _)
   | (with_reducible refine LeO.ite ?_ ?_)
   | (with_reducible refine LeO.bind ?_ (fun _ => ?_))
   | exact ih0 _ _
   | exact archivistref06_Name.mono _ _
   | exact LeO.none _
   | refine LeO.ite ?_ ?_
   | refine LeO.bind ?_ (fun _ => ?_)
def archivistref06_Right.T6 : Bool × List (List Nat × List Nat) := (true, [([], []), ([], []), ([0, 1], [0, 1]), ([2], [2]), ([3], [3]), ([4], [4]), ([5], [5]), ([6, 5], [6]), ([7], [7]), ([7], [7]), ([8, 9, 7], [7, 8, 9]), ([10, 7], [7, 10]), ([11, 7], [7, 11]), ([12, 7], [7, 12]), ([13, 7], [7, 13]), ([7, 14], [7, 14]), ([15, 7], [15]), ([16], [16]), ([17, 16], [16, 17]), ([18, 16, 16], [16, 18]), ([19], [19]), ([19], [19]), ([21, 19], [19, 21]), ([20, 22, 19], [19, 20, 22]), ([23, 19], [19, 23]), ([24, 19], [19, 24]), ([19], [19]), ([19], [19]), ([26, 27, 19], [19, 26, 27]), ([28, 19], [19, 28]), ([29, 19], [19, 29]), ([25, 30, 19], [19, 25, 30]), ([19, 31, 16], [16, 19, 31]), ([16, 32], [16, 32])])
def archivistref06_Right.B6 : List Nat := [0, 0, 3, 7, 15, 31, 63, 127, 255, 255, 1023, 2047, 4095, 8191, 16383, 32767, 65535, 131071, 262143, 524287, 1048575, 1048575, 3145727, 8388607, 16777215, 33554431, 1048575, 1048575, 202375167, 470810623, 1007681535, 2147483647, 4294967295, 8589934591]
theorem archivistref06_Right.tab6 : rtab .any (opsOf Try.f28 6) = archivistref06_Right.T6 := by kernel_rfl
theorem archivistref06_Right.bits6 : waitsOk archivistref06_Right.T6.2 archivistref06_Right.B6 = true := by kernel_rfl
set_option maxHeartbeats 8000000 in
set_option maxRecDepth 100000 in
theorem archivistref06_Right.calls (k : Nat) (A0 : Option Addr) (c0 : Nat) (l0 : List (S38)) (r : Bool) (w : World) (hr0 : Kd.C k38 w A0 l0.length l0) (hc0 : l0.length ≤ c0) (h : archivistref06_Right.f k l0 = some r) :
  Calls Try.prog 28 #[.slice A0 l0.length c0] w fun e w' => e = .returned (.bool r) ∧ Below w.heap.size w w' := by
 have HR0 := Aside0.mk hr0
 have HC0 := Aside0.mk hc0
 clear hr0 hc0
 have HB := Aside0.mk (Below.refl w.heap.size w)
 have H : (if (l0.length : Int) > 16 then (some false) else (archivistref06_Right.l0 k l0 0)) = some r := h
 clear h
 by_cases c2 : (l0.length : Int) > 16
 ·rw [if_pos c2] at H
  have c2b0 := decide_eq_true c2
  have c2b1 : decide (16 < l0.length) = true := decide_eq_true (by omega)
  clear c2
  obtain rfl := Option.some.inj H
  go_enter Try.func28, Try.ntmps28
  go_wp2
  go_ret
  exact ⟨by first | rfl | (simp [errW_none, errW_some] <;> rfl) | (simp [*, errW_none, errW_some] <;> rfl), bl⟩
 ·rw [if_neg c2] at H
  have c2b0 : decide (16 < (l0.length : Int)) = false := decide_eq_false c2
  have c2b1 : decide (16 < l0.length) = false := decide_eq_false (by omega)
  clear c2
  have H' := Aside0.mk H
  clear H
  go_enter Try.func28, Try.ntmps28
  go_wp2
  go_loopg [3] k (fun kq v3 w' => ∃ (x3_1 : Int), v3 = .int .i64 x3_1 ∧ Aside0 (archivistref06_Right.l0 kq l0 x3_1 = some r) ∧ Aside0 (kq ≤ k) ∧ Aside0 (Below w.heap.size w w'))
  case atStart => exact ⟨(0), rs, H', ⟨Nat.le_refl _⟩, ⟨bl⟩⟩
  case round =>
   clear H'
   try clear c2
   try clear c2b0
   try clear c2b1
   try clear p2
   obtain ⟨x3_1, rfl, HA, HK1, HB⟩ := hrel
   cases gk with
   | zero => exact absurd HA.out (by simp [archivistref06_Right.l0])
   | succ k1 =>
    have H := HA.out
    clear HA
    simp only [archivistref06_Right.l0] at H
    by_cases c3 : x3_1 < (l0.length : Int)
    ·rw [if_pos c3] at H
     have c3b0 := decide_eq_true c3
     clear c3
     by_cases c4 : 0 ≤ x3_1
     ·rw [if_pos c4] at H
      have c4b0 := decide_eq_true c4
      clear c4
      replace H := Option.bind_eq_some_iff.mp H
      obtain ⟨t377, A50, H⟩ := H
      replace H : (if t377 = true then (if (((rd_T38 l0 x3_1).f1).size : Int) > 256 then (some false) else (if x3_1 > 0 then (if 0 ≤ (wrap64 (x3_1 - 1)) then (if (wrap64 (x3_1 - 1)) < (l0.length : Int) then (if ((Op.bytesLess (((rd_T38 l0 (wrap64 (x3_1 - 1))).f0).toList) (((rd_T38 l0 x3_1).f0).toList)) = true) then (archivistref06_Right.l0 k1 l0 (wrap64 (x3_1 + 1))) else (some false)) else (none)) else (none)) else (archivistref06_Right.l0 k1 l0 (wrap64 (x3_1 + 1))))) else (some false)) = some r := H
      have A5 := Aside0.mk A50
      clear A50
      by_cases c6 : t377 = true
      ·subst c6
       have H1 : (if (((rd_T38 l0 x3_1).f1).size : Int) > 256 then (some false) else (if x3_1 > 0 then (if 0 ≤ (wrap64 (x3_1 - 1)) then (if (wrap64 (x3_1 - 1)) < (l0.length : Int) then (if ((Op.bytesLess (((rd_T38 l0 (wrap64 (x3_1 - 1))).f0).toList) (((rd_T38 l0 x3_1).f0).toList)) = true) then (archivistref06_Right.l0 k1 l0 (wrap64 (x3_1 + 1))) else (some false)) else (none)) else (none)) else (archivistref06_Right.l0 k1 l0 (wrap64 (x3_1 + 1))))) = some r := by rw [if_pos rfl] at H; exact H
       clear H
       have H := H1
       clear H1
       by_cases c7 : (((rd_T38 l0 x3_1).f1).size : Int) > 256
       ·rw [if_pos c7] at H
        have c7b0 := decide_eq_true c7
        have c7b1 : decide (256 < ((rd_T38 l0 x3_1).f1).size) = true := decide_eq_true (by omega)
        clear c7
        obtain rfl := Option.some.inj H
        try go_wp2
        have n0_ := Aside0.mk (below_drew1 HB.out)
        clear HB
        have HB := n0_
        clear n0_
        have p376 : 0 ≤ (x3_1 : Int) := od
        have q376 : x3_1 < (l0.length : Int) := od
        obtain ⟨ad376, e376, hx376_0, hx376_1⟩ := at_T38 HR0.out x3_1 p376 q376
        have hw376_1 := hx376_1
        have hw376_0 := hx376_0
        cases e376
        replace hx376_0 := cu HB.out hx376_0
        replace hx376_1 := cu HB.out hx376_1
        replace p376 := eq_true p376
        replace q376 := eq_true q376
        have p378 : 0 ≤ (x3_1 : Int) := od
        have q378 : x3_1 < (l0.length : Int) := od
        obtain ⟨ad378, e378, hx378_0, hx378_1⟩ := at_T38 HR0.out x3_1 p378 q378
        have hw378_1 := hx378_1
        have hw378_0 := hx378_0
        obtain rfl : ad376 = ad378 := (by injection e378)
        replace hx378_0 := cu HB.out hx378_0
        replace hx378_1 := cu HB.out hx378_1
        replace p378 := eq_true p378
        replace q378 := eq_true q378
        refine start_ (n := 34) (S := fun w' => w'.cell? (ad376.add ((x3_1).toNat * 2)) = some (.string ((rd_T38 l0 x3_1).f0)) ∧ w'.cell? ⟨(ad376.add ((x3_1).toNat * 2)).block, (ad376.add ((x3_1).toNat * 2)).off + 1, none⟩ = some (.string ((rd_T38 l0 x3_1).f1)) ∧ w'.cell? (ad376.add ((x3_1).toNat * 2)) = some (.string ((rd_T38 l0 x3_1).f0)) ∧ w'.cell? ⟨(ad376.add ((x3_1).toNat * 2)).block, (ad376.add ((x3_1).toNat * 2)).off + 1, none⟩ = some (.string ((rd_T38 l0 x3_1).f1))) (ds := []) #[N_,N_,N_,N_,N_,N_,N_,N_,N_,N_,N_,N_,N_,N_,N_,N_,N_,N_,N_,N_,N_,N_,N_,N_,N_,N_,N_,N_,N_,N_,N_,N_,N_,N_] (by kernel_rfl) rfl rfl ⟨(cu HB.out hw376_0 :), (cu HB.out hw376_1 :), (cu HB.out hw378_0 :), (cu HB.out hw378_1 :)⟩ (fun hHeld => ?_); refine with_tabW archivistref06_Right.tab6 archivistref06_Right.bits6 (fun HT_ HW_ => ?_)
        generalize wr.drew = w8 at HB hx376_0 hx376_1 hx378_0 hx378_1 hHeld ⊢
        refine pY 0 13 #[J_,N_,N_,N_,N_,N_,N_,N_,N_,N_,N_,N_,N_,N_,N_,N_,N_,N_,N_,N_,N_,N_,N_,N_,N_,N_,N_,N_,N_,N_,N_,N_,N_,N_] HT_.out ?_
        refine pY 1 14 #[J_,J_,N_,N_,N_,N_,N_,N_,N_,N_,N_,N_,N_,N_,N_,N_,N_,N_,N_,N_,N_,N_,N_,N_,N_,N_,N_,N_,N_,N_,N_,N_,N_,N_] HT_.out ?_
        refine pY 2 15 #[J_,J_,J_,N_,N_,N_,N_,N_,N_,N_,N_,N_,N_,N_,N_,N_,N_,N_,N_,N_,N_,N_,N_,N_,N_,N_,N_,N_,N_,N_,N_,N_,N_,N_] HT_.out ?_
        refine pY 3 16 #[J_,J_,J_,J_,N_,N_,N_,N_,N_,N_,N_,N_,N_,N_,N_,N_,N_,N_,N_,N_,N_,N_,N_,N_,N_,N_,N_,N_,N_,N_,N_,N_,N_,N_] HT_.out ?_
        refine take_ (i := 4) (N := some 17) (v := ?_) (a' := ?_) #[J_,J_,J_,J_,J_,N_,N_,N_,N_,N_,N_,N_,N_,N_,N_,N_,N_,N_,N_,N_,N_,N_,N_,N_,N_,N_,N_,N_,N_,N_,N_,N_,N_,N_] rfl rfl (take_ofW HT_.out HW_.out (by kernel_rfl)) (fun _ _ _ h => h) (Or.inl ⟨by rfl, ?_⟩) hHeld ?_ ?_
        rotate_left
        ·rintro w' ⟨s0, s1, s2, s3⟩
         go_simp
         with_reducible rfl
        rotate_left
        ·simp only [Act.put, List.setIfInBounds_toArray, List.set_cons_zero, List.set_cons_succ, i64_w, i32_w]
         rfl
        refine one_ (i := 5) (N := some 18) #[J_,J_,J_,J_,J_,J_,N_,N_,N_,N_,N_,N_,N_,N_,N_,N_,N_,N_,N_,N_,N_,N_,N_,N_,N_,N_,N_,N_,N_,N_,N_,N_,N_,N_] rfl rfl (one_of HT_.out (by kernel_rfl)) (by decide) (fun K hK => ?_)
        refine goes_ Try.func26 (by kernel_rfl) rfl #[.string ((rd_T38 l0 x3_1).f0)] (by rfl) rfl rfl ml ?_
        with_reducible refine (archivistref06_Name.calls _ _ _ _ A5.out).mono ?_
        rintro e w' ⟨rfl, ⟨nd, rfl⟩⟩
        refine ⟨_, rfl, ?_⟩
        refine hK.out _ _ ⟨(cu HB.out hw376_0 :), (cu HB.out hw376_1 :), (cu HB.out hw378_0 :), (cu HB.out hw378_1 :)⟩ (fun hHeld => ?_)
        clear hK K
        refine norm_ (a' := ?_) ?_ ?_
        rotate_left
        ·show Act.put _ (some 18) _ = _
         simp only [Act.put, List.setIfInBounds_toArray, List.set_cons_zero, List.set_cons_succ, i64_w, i32_w]
         rfl
        refine pY 6 19 #[J_,J_,J_,J_,J_,J_,J_,N_,N_,N_,N_,N_,N_,N_,N_,N_,N_,N_,N_,N_,N_,N_,N_,N_,N_,N_,N_,N_,N_,N_,N_,N_,N_,N_] HT_.out ?_
        refine pY 7 20 #[J_,J_,J_,J_,J_,J_,J_,J_,N_,N_,N_,N_,N_,N_,N_,N_,N_,N_,N_,N_,N_,N_,N_,N_,N_,N_,N_,N_,N_,N_,N_,N_,N_,N_] HT_.out ?_
        refine pY 8 21 #[J_,J_,J_,J_,J_,J_,J_,J_,J_,N_,N_,N_,N_,N_,N_,N_,N_,N_,N_,N_,N_,N_,N_,N_,N_,N_,N_,N_,N_,N_,N_,N_,N_,N_] HT_.out ?_
        refine pY 9 22 #[J_,J_,J_,J_,J_,J_,J_,J_,J_,J_,N_,N_,N_,N_,N_,N_,N_,N_,N_,N_,N_,N_,N_,N_,N_,N_,N_,N_,N_,N_,N_,N_,N_,N_] HT_.out ?_
        refine pY 10 23 #[J_,J_,J_,J_,J_,J_,J_,J_,J_,J_,J_,N_,N_,N_,N_,N_,N_,N_,N_,N_,N_,N_,N_,N_,N_,N_,N_,N_,N_,N_,N_,N_,N_,N_] HT_.out ?_
        refine pY 11 24 #[J_,J_,J_,J_,J_,J_,J_,J_,J_,J_,J_,J_,N_,N_,N_,N_,N_,N_,N_,N_,N_,N_,N_,N_,N_,N_,N_,N_,N_,N_,N_,N_,N_,N_] HT_.out ?_
        refine take_ (i := 12) (N := some 25) (v := ?_) (a' := ?_) #[J_,J_,J_,J_,J_,J_,J_,J_,J_,J_,J_,J_,J_,N_,N_,N_,N_,N_,N_,N_,N_,N_,N_,N_,N_,N_,N_,N_,N_,N_,N_,N_,N_,N_] rfl rfl (take_ofW HT_.out HW_.out (by kernel_rfl)) (fun _ _ _ h => h) (Or.inl ⟨by rfl, ?_⟩) hHeld ?_ ?_
        rotate_left
        ·rintro w' ⟨s0, s1, s2, s3⟩
         go_simp
         with_reducible rfl
        rotate_left
        ·simp only [Act.put, List.setIfInBounds_toArray, List.set_cons_zero, List.set_cons_succ, i64_w, i32_w]
         rfl
        refine pY 13 26 #[J_,J_,J_,J_,J_,J_,J_,J_,J_,J_,J_,J_,J_,J_,N_,N_,N_,N_,N_,N_,N_,N_,N_,N_,N_,N_,N_,N_,N_,N_,N_,N_,N_,N_] HT_.out ?_
        refine pY 14 27 #[J_,J_,J_,J_,J_,J_,J_,J_,J_,J_,J_,J_,J_,J_,J_,N_,N_,N_,N_,N_,N_,N_,N_,N_,N_,N_,N_,N_,N_,N_,N_,N_,N_,N_] HT_.out ?_
        refine pY 15 28 #[J_,J_,J_,J_,J_,J_,J_,J_,J_,J_,J_,J_,J_,J_,J_,J_,N_,N_,N_,N_,N_,N_,N_,N_,N_,N_,N_,N_,N_,N_,N_,N_,N_,N_] HT_.out ?_
        refine pY 16 29 #[J_,J_,J_,J_,J_,J_,J_,J_,J_,J_,J_,J_,J_,J_,J_,J_,J_,N_,N_,N_,N_,N_,N_,N_,N_,N_,N_,N_,N_,N_,N_,N_,N_,N_] HT_.out ?_
        refine pU 17 30 #[J_,J_,J_,J_,J_,J_,J_,J_,J_,J_,J_,J_,J_,J_,J_,J_,J_,J_,N_,N_,N_,N_,N_,N_,N_,N_,N_,N_,N_,N_,N_,N_,N_,N_] HT_.out ?_
        refine pU 18 31 #[J_,J_,J_,J_,J_,J_,J_,J_,J_,J_,J_,J_,J_,J_,J_,J_,J_,J_,J_,N_,N_,N_,N_,N_,N_,N_,N_,N_,N_,N_,N_,N_,N_,N_] HT_.out ?_
        refine pU 19 32 #[J_,J_,J_,J_,J_,J_,J_,J_,J_,J_,J_,J_,J_,J_,J_,J_,J_,J_,J_,J_,N_,N_,N_,N_,N_,N_,N_,N_,N_,N_,N_,N_,N_,N_] HT_.out ?_
        refine pU 20 33 #[J_,J_,J_,J_,J_,J_,J_,J_,J_,J_,J_,J_,J_,J_,J_,J_,J_,J_,J_,J_,J_,N_,N_,N_,N_,N_,N_,N_,N_,N_,N_,N_,N_,N_] HT_.out ?_
        refine pU 21 34 #[J_,J_,J_,J_,J_,J_,J_,J_,J_,J_,J_,J_,J_,J_,J_,J_,J_,J_,J_,J_,J_,J_,N_,N_,N_,N_,N_,N_,N_,N_,N_,N_,N_,N_] HT_.out ?_
        refine pU 22 35 #[J_,J_,J_,J_,J_,J_,J_,J_,J_,J_,J_,J_,J_,J_,J_,J_,J_,J_,J_,J_,J_,J_,J_,N_,N_,N_,N_,N_,N_,N_,N_,N_,N_,N_] HT_.out ?_
        refine pU 23 36 #[J_,J_,J_,J_,J_,J_,J_,J_,J_,J_,J_,J_,J_,J_,J_,J_,J_,J_,J_,J_,J_,J_,J_,J_,N_,N_,N_,N_,N_,N_,N_,N_,N_,N_] HT_.out ?_
        refine pU 24 37 #[J_,J_,J_,J_,J_,J_,J_,J_,J_,J_,J_,J_,J_,J_,J_,J_,J_,J_,J_,J_,J_,J_,J_,J_,J_,N_,N_,N_,N_,N_,N_,N_,N_,N_] HT_.out ?_
        refine pU 25 38 #[J_,J_,J_,J_,J_,J_,J_,J_,J_,J_,J_,J_,J_,J_,J_,J_,J_,J_,J_,J_,J_,J_,J_,J_,J_,J_,N_,N_,N_,N_,N_,N_,N_,N_] HT_.out ?_
        refine pU 26 39 #[J_,J_,J_,J_,J_,J_,J_,J_,J_,J_,J_,J_,J_,J_,J_,J_,J_,J_,J_,J_,J_,J_,J_,J_,J_,J_,J_,N_,N_,N_,N_,N_,N_,N_] HT_.out ?_
        refine pU 27 40 #[J_,J_,J_,J_,J_,J_,J_,J_,J_,J_,J_,J_,J_,J_,J_,J_,J_,J_,J_,J_,J_,J_,J_,J_,J_,J_,J_,J_,N_,N_,N_,N_,N_,N_] HT_.out ?_
        refine pU 28 41 #[J_,J_,J_,J_,J_,J_,J_,J_,J_,J_,J_,J_,J_,J_,J_,J_,J_,J_,J_,J_,J_,J_,J_,J_,J_,J_,J_,J_,J_,N_,N_,N_,N_,N_] HT_.out ?_
        refine pU 29 42 #[J_,J_,J_,J_,J_,J_,J_,J_,J_,J_,J_,J_,J_,J_,J_,J_,J_,J_,J_,J_,J_,J_,J_,J_,J_,J_,J_,J_,J_,J_,N_,N_,N_,N_] HT_.out ?_
        refine pU 30 43 #[J_,J_,J_,J_,J_,J_,J_,J_,J_,J_,J_,J_,J_,J_,J_,J_,J_,J_,J_,J_,J_,J_,J_,J_,J_,J_,J_,J_,J_,J_,J_,N_,N_,N_] HT_.out ?_
        refine pU 31 44 #[J_,J_,J_,J_,J_,J_,J_,J_,J_,J_,J_,J_,J_,J_,J_,J_,J_,J_,J_,J_,J_,J_,J_,J_,J_,J_,J_,J_,J_,J_,J_,J_,N_,N_] HT_.out ?_
        refine pU 32 45 #[J_,J_,J_,J_,J_,J_,J_,J_,J_,J_,J_,J_,J_,J_,J_,J_,J_,J_,J_,J_,J_,J_,J_,J_,J_,J_,J_,J_,J_,J_,J_,J_,J_,N_] HT_.out ?_
        refine pY 33 46 #[J_,J_,J_,J_,J_,J_,J_,J_,J_,J_,J_,J_,J_,J_,J_,J_,J_,J_,J_,J_,J_,J_,J_,J_,J_,J_,J_,J_,J_,J_,J_,J_,J_,J_] HT_.out ?_
        refine done_ (done_of HT_.out (by kernel_rfl)) ?_
        try go_wp2
        go_ret
        exact ⟨by first | rfl | (simp [errW_none, errW_some] <;> rfl) | (simp [*, errW_none, errW_some] <;> rfl), bl⟩
       ·rw [if_neg c7] at H
        have c7b0 : decide (256 < (((rd_T38 l0 x3_1).f1).size : Int)) = false := decide_eq_false c7
        have c7b1 : decide (256 < ((rd_T38 l0 x3_1).f1).size) = false := decide_eq_false (by omega)
        clear c7
        by_cases c9 : x3_1 > 0
        ·rw [if_pos c9] at H
         have c9b0 := decide_eq_true c9
         clear c9
         obtain ⟨ji10, hji10⟩ : ∃ j_ : Int, (wrap64 (x3_1 - 1)) = j_ := ⟨_, rfl⟩
         replace H : (if 0 ≤ (ji10) then (if (ji10) < (l0.length : Int) then (if ((Op.bytesLess (((rd_T38 l0 (ji10)).f0).toList) (((rd_T38 l0 x3_1).f0).toList)) = true) then (archivistref06_Right.l0 k1 l0 (wrap64 (x3_1 + 1))) else (some false)) else (none)) else (none)) = some r := by first | (rw [hji10] at H; exact H) | (simp only [hji10] at H ⊢; exact H)
         (try rw [hji10] at A5)
         have hji10w : (IntKind.i64.wrap (x3_1 - 1)) = ji10 := (i64_w _).trans hji10
         by_cases c11 : 0 ≤ (ji10)
         ·rw [if_pos c11] at H
          have c11b0 := decide_eq_true c11
          clear c11
          by_cases c12 : (ji10) < (l0.length : Int)
          ·rw [if_pos c12] at H
           have c12b0 := decide_eq_true c12
           clear c12
           by_cases c13 : ((Op.bytesLess (((rd_T38 l0 (ji10)).f0).toList) (((rd_T38 l0 x3_1).f0).toList)) = true)
           ·rw [if_pos c13] at H
            have c13b0 := c13
            clear c13
            have H' := Aside0.mk H
            clear H
            try go_wp2
            have n0_ := Aside0.mk (below_drew1 HB.out)
            clear HB
            have HB := n0_
            clear n0_
            have p376 : 0 ≤ (x3_1 : Int) := od
            have q376 : x3_1 < (l0.length : Int) := od
            obtain ⟨ad376, e376, hx376_0, hx376_1⟩ := at_T38 HR0.out x3_1 p376 q376
            have hw376_1 := hx376_1
            have hw376_0 := hx376_0
            cases e376
            replace hx376_0 := cu HB.out hx376_0
            replace hx376_1 := cu HB.out hx376_1
            replace p376 := eq_true p376
            replace q376 := eq_true q376
            have p378 : 0 ≤ (x3_1 : Int) := od
            have q378 : x3_1 < (l0.length : Int) := od
            obtain ⟨ad378, e378, hx378_0, hx378_1⟩ := at_T38 HR0.out x3_1 p378 q378
            have hw378_1 := hx378_1
            have hw378_0 := hx378_0
            obtain rfl : ad376 = ad378 := (by injection e378)
            replace hx378_0 := cu HB.out hx378_0
            replace hx378_1 := cu HB.out hx378_1
            replace p378 := eq_true p378
            replace q378 := eq_true q378
            have p379 : 0 ≤ ((ji10) : Int) := od
            have q379 : (ji10) < (l0.length : Int) := od
            obtain ⟨ad379, e379, hx379_0, hx379_1⟩ := at_T38 HR0.out (ji10) p379 q379
            have hw379_1 := hx379_1
            have hw379_0 := hx379_0
            obtain rfl : ad376 = ad379 := (by injection e379)
            replace hx379_0 := cu HB.out hx379_0
            replace hx379_1 := cu HB.out hx379_1
            replace p379 := eq_true p379
            replace q379 := eq_true q379
            have p380 : 0 ≤ (x3_1 : Int) := od
            have q380 : x3_1 < (l0.length : Int) := od
            obtain ⟨ad380, e380, hx380_0, hx380_1⟩ := at_T38 HR0.out x3_1 p380 q380
            have hw380_1 := hx380_1
            have hw380_0 := hx380_0
            obtain rfl : ad376 = ad380 := (by injection e380)
            replace hx380_0 := cu HB.out hx380_0
            replace hx380_1 := cu HB.out hx380_1
            replace p380 := eq_true p380
            replace q380 := eq_true q380
            refine start_ (n := 34) (S := fun w' => w'.cell? (ad376.add ((x3_1).toNat * 2)) = some (.string ((rd_T38 l0 x3_1).f0)) ∧ w'.cell? ⟨(ad376.add ((x3_1).toNat * 2)).block, (ad376.add ((x3_1).toNat * 2)).off + 1, none⟩ = some (.string ((rd_T38 l0 x3_1).f1)) ∧ w'.cell? (ad376.add ((x3_1).toNat * 2)) = some (.string ((rd_T38 l0 x3_1).f0)) ∧ w'.cell? ⟨(ad376.add ((x3_1).toNat * 2)).block, (ad376.add ((x3_1).toNat * 2)).off + 1, none⟩ = some (.string ((rd_T38 l0 x3_1).f1)) ∧ w'.cell? (ad376.add (((ji10)).toNat * 2)) = some (.string ((rd_T38 l0 (ji10)).f0)) ∧ w'.cell? ⟨(ad376.add (((ji10)).toNat * 2)).block, (ad376.add (((ji10)).toNat * 2)).off + 1, none⟩ = some (.string ((rd_T38 l0 (ji10)).f1)) ∧ w'.cell? (ad376.add ((x3_1).toNat * 2)) = some (.string ((rd_T38 l0 x3_1).f0)) ∧ w'.cell? ⟨(ad376.add ((x3_1).toNat * 2)).block, (ad376.add ((x3_1).toNat * 2)).off + 1, none⟩ = some (.string ((rd_T38 l0 x3_1).f1))) (ds := []) #[N_,N_,N_,N_,N_,N_,N_,N_,N_,N_,N_,N_,N_,N_,N_,N_,N_,N_,N_,N_,N_,N_,N_,N_,N_,N_,N_,N_,N_,N_,N_,N_,N_,N_] (by kernel_rfl) rfl rfl ⟨(cu HB.out hw376_0 :), (cu HB.out hw376_1 :), (cu HB.out hw378_0 :), (cu HB.out hw378_1 :), (cu HB.out hw379_0 :), (cu HB.out hw379_1 :), (cu HB.out hw380_0 :), (cu HB.out hw380_1 :)⟩ (fun hHeld => ?_); refine with_tabW archivistref06_Right.tab6 archivistref06_Right.bits6 (fun HT_ HW_ => ?_)
            generalize wr.drew = w14 at HB hx376_0 hx376_1 hx378_0 hx378_1 hx379_0 hx379_1 hx380_0 hx380_1 hHeld ⊢
            refine pY 0 13 #[J_,N_,N_,N_,N_,N_,N_,N_,N_,N_,N_,N_,N_,N_,N_,N_,N_,N_,N_,N_,N_,N_,N_,N_,N_,N_,N_,N_,N_,N_,N_,N_,N_,N_] HT_.out ?_
            refine pY 1 14 #[J_,J_,N_,N_,N_,N_,N_,N_,N_,N_,N_,N_,N_,N_,N_,N_,N_,N_,N_,N_,N_,N_,N_,N_,N_,N_,N_,N_,N_,N_,N_,N_,N_,N_] HT_.out ?_
            refine pY 2 15 #[J_,J_,J_,N_,N_,N_,N_,N_,N_,N_,N_,N_,N_,N_,N_,N_,N_,N_,N_,N_,N_,N_,N_,N_,N_,N_,N_,N_,N_,N_,N_,N_,N_,N_] HT_.out ?_
            refine pY 3 16 #[J_,J_,J_,J_,N_,N_,N_,N_,N_,N_,N_,N_,N_,N_,N_,N_,N_,N_,N_,N_,N_,N_,N_,N_,N_,N_,N_,N_,N_,N_,N_,N_,N_,N_] HT_.out ?_
            refine take_ (i := 4) (N := some 17) (v := ?_) (a' := ?_) #[J_,J_,J_,J_,J_,N_,N_,N_,N_,N_,N_,N_,N_,N_,N_,N_,N_,N_,N_,N_,N_,N_,N_,N_,N_,N_,N_,N_,N_,N_,N_,N_,N_,N_] rfl rfl (take_ofW HT_.out HW_.out (by kernel_rfl)) (fun _ _ _ h => h) (Or.inl ⟨by rfl, ?_⟩) hHeld ?_ ?_
            rotate_left
            ·rintro w' ⟨s0, s1, s2, s3, s4, s5, s6, s7⟩
             go_simp
             with_reducible rfl
            rotate_left
            ·simp only [Act.put, List.setIfInBounds_toArray, List.set_cons_zero, List.set_cons_succ, i64_w, i32_w]
             rfl
            refine one_ (i := 5) (N := some 18) #[J_,J_,J_,J_,J_,J_,N_,N_,N_,N_,N_,N_,N_,N_,N_,N_,N_,N_,N_,N_,N_,N_,N_,N_,N_,N_,N_,N_,N_,N_,N_,N_,N_,N_] rfl rfl (one_of HT_.out (by kernel_rfl)) (by decide) (fun K hK => ?_)
            refine goes_ Try.func26 (by kernel_rfl) rfl #[.string ((rd_T38 l0 x3_1).f0)] (by rfl) rfl rfl ml ?_
            with_reducible refine (archivistref06_Name.calls _ _ _ _ A5.out).mono ?_
            rintro e w' ⟨rfl, ⟨nd, rfl⟩⟩
            refine ⟨_, rfl, ?_⟩
            refine hK.out _ _ ⟨(cu HB.out hw376_0 :), (cu HB.out hw376_1 :), (cu HB.out hw378_0 :), (cu HB.out hw378_1 :), (cu HB.out hw379_0 :), (cu HB.out hw379_1 :), (cu HB.out hw380_0 :), (cu HB.out hw380_1 :)⟩ (fun hHeld => ?_)
            clear hK K
            refine norm_ (a' := ?_) ?_ ?_
            rotate_left
            ·show Act.put _ (some 18) _ = _
             simp only [Act.put, List.setIfInBounds_toArray, List.set_cons_zero, List.set_cons_succ, i64_w, i32_w]
             rfl
            refine pY 6 19 #[J_,J_,J_,J_,J_,J_,J_,N_,N_,N_,N_,N_,N_,N_,N_,N_,N_,N_,N_,N_,N_,N_,N_,N_,N_,N_,N_,N_,N_,N_,N_,N_,N_,N_] HT_.out ?_
            refine pY 7 20 #[J_,J_,J_,J_,J_,J_,J_,J_,N_,N_,N_,N_,N_,N_,N_,N_,N_,N_,N_,N_,N_,N_,N_,N_,N_,N_,N_,N_,N_,N_,N_,N_,N_,N_] HT_.out ?_
            refine pY 8 21 #[J_,J_,J_,J_,J_,J_,J_,J_,J_,N_,N_,N_,N_,N_,N_,N_,N_,N_,N_,N_,N_,N_,N_,N_,N_,N_,N_,N_,N_,N_,N_,N_,N_,N_] HT_.out ?_
            refine pY 9 22 #[J_,J_,J_,J_,J_,J_,J_,J_,J_,J_,N_,N_,N_,N_,N_,N_,N_,N_,N_,N_,N_,N_,N_,N_,N_,N_,N_,N_,N_,N_,N_,N_,N_,N_] HT_.out ?_
            refine pY 10 23 #[J_,J_,J_,J_,J_,J_,J_,J_,J_,J_,J_,N_,N_,N_,N_,N_,N_,N_,N_,N_,N_,N_,N_,N_,N_,N_,N_,N_,N_,N_,N_,N_,N_,N_] HT_.out ?_
            refine pY 11 24 #[J_,J_,J_,J_,J_,J_,J_,J_,J_,J_,J_,J_,N_,N_,N_,N_,N_,N_,N_,N_,N_,N_,N_,N_,N_,N_,N_,N_,N_,N_,N_,N_,N_,N_] HT_.out ?_
            refine take_ (i := 12) (N := some 25) (v := ?_) (a' := ?_) #[J_,J_,J_,J_,J_,J_,J_,J_,J_,J_,J_,J_,J_,N_,N_,N_,N_,N_,N_,N_,N_,N_,N_,N_,N_,N_,N_,N_,N_,N_,N_,N_,N_,N_] rfl rfl (take_ofW HT_.out HW_.out (by kernel_rfl)) (fun _ _ _ h => h) (Or.inl ⟨by rfl, ?_⟩) hHeld ?_ ?_
            rotate_left
            ·rintro w' ⟨s0, s1, s2, s3, s4, s5, s6, s7⟩
             go_simp
             with_reducible rfl
            rotate_left
            ·simp only [Act.put, List.setIfInBounds_toArray, List.set_cons_zero, List.set_cons_succ, i64_w, i32_w]
             rfl
            refine pY 13 26 #[J_,J_,J_,J_,J_,J_,J_,J_,J_,J_,J_,J_,J_,J_,N_,N_,N_,N_,N_,N_,N_,N_,N_,N_,N_,N_,N_,N_,N_,N_,N_,N_,N_,N_] HT_.out ?_
            refine pY 14 27 #[J_,J_,J_,J_,J_,J_,J_,J_,J_,J_,J_,J_,J_,J_,J_,N_,N_,N_,N_,N_,N_,N_,N_,N_,N_,N_,N_,N_,N_,N_,N_,N_,N_,N_] HT_.out ?_
            refine pY 15 28 #[J_,J_,J_,J_,J_,J_,J_,J_,J_,J_,J_,J_,J_,J_,J_,J_,N_,N_,N_,N_,N_,N_,N_,N_,N_,N_,N_,N_,N_,N_,N_,N_,N_,N_] HT_.out ?_
            refine pY 16 29 #[J_,J_,J_,J_,J_,J_,J_,J_,J_,J_,J_,J_,J_,J_,J_,J_,J_,N_,N_,N_,N_,N_,N_,N_,N_,N_,N_,N_,N_,N_,N_,N_,N_,N_] HT_.out ?_
            refine pY 17 30 #[J_,J_,J_,J_,J_,J_,J_,J_,J_,J_,J_,J_,J_,J_,J_,J_,J_,J_,N_,N_,N_,N_,N_,N_,N_,N_,N_,N_,N_,N_,N_,N_,N_,N_] HT_.out ?_
            refine pY 18 31 #[J_,J_,J_,J_,J_,J_,J_,J_,J_,J_,J_,J_,J_,J_,J_,J_,J_,J_,J_,N_,N_,N_,N_,N_,N_,N_,N_,N_,N_,N_,N_,N_,N_,N_] HT_.out ?_
            refine pY 19 32 #[J_,J_,J_,J_,J_,J_,J_,J_,J_,J_,J_,J_,J_,J_,J_,J_,J_,J_,J_,J_,N_,N_,N_,N_,N_,N_,N_,N_,N_,N_,N_,N_,N_,N_] HT_.out ?_
            refine pY 20 33 #[J_,J_,J_,J_,J_,J_,J_,J_,J_,J_,J_,J_,J_,J_,J_,J_,J_,J_,J_,J_,J_,N_,N_,N_,N_,N_,N_,N_,N_,N_,N_,N_,N_,N_] HT_.out ?_
            refine pY 21 34 #[J_,J_,J_,J_,J_,J_,J_,J_,J_,J_,J_,J_,J_,J_,J_,J_,J_,J_,J_,J_,J_,J_,N_,N_,N_,N_,N_,N_,N_,N_,N_,N_,N_,N_] HT_.out ?_
            refine pY 22 35 #[J_,J_,J_,J_,J_,J_,J_,J_,J_,J_,J_,J_,J_,J_,J_,J_,J_,J_,J_,J_,J_,J_,J_,N_,N_,N_,N_,N_,N_,N_,N_,N_,N_,N_] HT_.out ?_
            refine pY 23 36 #[J_,J_,J_,J_,J_,J_,J_,J_,J_,J_,J_,J_,J_,J_,J_,J_,J_,J_,J_,J_,J_,J_,J_,J_,N_,N_,N_,N_,N_,N_,N_,N_,N_,N_] HT_.out ?_
            refine pY 24 37 #[J_,J_,J_,J_,J_,J_,J_,J_,J_,J_,J_,J_,J_,J_,J_,J_,J_,J_,J_,J_,J_,J_,J_,J_,J_,N_,N_,N_,N_,N_,N_,N_,N_,N_] HT_.out ?_
            refine pY 26 39 #[J_,J_,J_,J_,J_,J_,J_,J_,J_,J_,J_,J_,J_,J_,J_,J_,J_,J_,J_,J_,J_,J_,J_,J_,J_,N_,J_,N_,N_,N_,N_,N_,N_,N_] HT_.out ?_
            refine pY 27 40 #[J_,J_,J_,J_,J_,J_,J_,J_,J_,J_,J_,J_,J_,J_,J_,J_,J_,J_,J_,J_,J_,J_,J_,J_,J_,N_,J_,J_,N_,N_,N_,N_,N_,N_] HT_.out ?_
            refine pY 28 41 #[J_,J_,J_,J_,J_,J_,J_,J_,J_,J_,J_,J_,J_,J_,J_,J_,J_,J_,J_,J_,J_,J_,J_,J_,J_,N_,J_,J_,J_,N_,N_,N_,N_,N_] HT_.out ?_
            refine pY 29 42 #[J_,J_,J_,J_,J_,J_,J_,J_,J_,J_,J_,J_,J_,J_,J_,J_,J_,J_,J_,J_,J_,J_,J_,J_,J_,N_,J_,J_,J_,J_,N_,N_,N_,N_] HT_.out ?_
            refine take_ (i := 25) (N := some 38) (v := ?_) (a' := ?_) #[J_,J_,J_,J_,J_,J_,J_,J_,J_,J_,J_,J_,J_,J_,J_,J_,J_,J_,J_,J_,J_,J_,J_,J_,J_,J_,J_,J_,J_,J_,N_,N_,N_,N_] rfl rfl (take_ofW HT_.out HW_.out (by kernel_rfl)) (fun _ _ _ h => h) (Or.inl ⟨by rfl, ?_⟩) hHeld ?_ ?_
            rotate_left
            ·rintro w' ⟨s0, s1, s2, s3, s4, s5, s6, s7⟩
             go_simp
             with_reducible rfl
            rotate_left
            ·simp only [Act.put, List.setIfInBounds_toArray, List.set_cons_zero, List.set_cons_succ, i64_w, i32_w]
             rfl
            refine take_ (i := 30) (N := some 43) (v := ?_) (a' := ?_) #[J_,J_,J_,J_,J_,J_,J_,J_,J_,J_,J_,J_,J_,J_,J_,J_,J_,J_,J_,J_,J_,J_,J_,J_,J_,J_,J_,J_,J_,J_,J_,N_,N_,N_] rfl rfl (take_ofW HT_.out HW_.out (by kernel_rfl)) (fun _ _ _ h => h) (Or.inl ⟨by rfl, ?_⟩) hHeld ?_ ?_
            rotate_left
            ·rintro w' ⟨s0, s1, s2, s3, s4, s5, s6, s7⟩
             go_simp
             with_reducible rfl
            rotate_left
            ·simp only [Act.put, List.setIfInBounds_toArray, List.set_cons_zero, List.set_cons_succ, i64_w, i32_w]
             rfl
            refine pY 31 44 #[J_,J_,J_,J_,J_,J_,J_,J_,J_,J_,J_,J_,J_,J_,J_,J_,J_,J_,J_,J_,J_,J_,J_,J_,J_,J_,J_,J_,J_,J_,J_,J_,N_,N_] HT_.out ?_
            refine pY 32 45 #[J_,J_,J_,J_,J_,J_,J_,J_,J_,J_,J_,J_,J_,J_,J_,J_,J_,J_,J_,J_,J_,J_,J_,J_,J_,J_,J_,J_,J_,J_,J_,J_,J_,N_] HT_.out ?_
            refine pY 33 46 #[J_,J_,J_,J_,J_,J_,J_,J_,J_,J_,J_,J_,J_,J_,J_,J_,J_,J_,J_,J_,J_,J_,J_,J_,J_,J_,J_,J_,J_,J_,J_,J_,J_,J_] HT_.out ?_
            refine done_ (done_of HT_.out (by kernel_rfl)) ?_
            try go_wp2
            go_roundg k1
            case measure => have := HK1.out; omega
            case rel => exact ⟨(wrap64 (x3_1 + 1)), rs, H', ⟨by have := HK1.out; omega⟩, ⟨bl⟩⟩
           ·rw [if_neg c13] at H
            have c13b0 : (Op.bytesLess (((rd_T38 l0 (ji10)).f0).toList) (((rd_T38 l0 x3_1).f0).toList)) = false := by simpa using c13
            clear c13
            obtain rfl := Option.some.inj H
            try go_wp2
            have n0_ := Aside0.mk (below_drew1 HB.out)
            clear HB
            have HB := n0_
            clear n0_
            have p376 : 0 ≤ (x3_1 : Int) := od
            have q376 : x3_1 < (l0.length : Int) := od
            obtain ⟨ad376, e376, hx376_0, hx376_1⟩ := at_T38 HR0.out x3_1 p376 q376
            have hw376_1 := hx376_1
            have hw376_0 := hx376_0
            cases e376
            replace hx376_0 := cu HB.out hx376_0
            replace hx376_1 := cu HB.out hx376_1
            replace p376 := eq_true p376
            replace q376 := eq_true q376
            have p378 : 0 ≤ (x3_1 : Int) := od
            have q378 : x3_1 < (l0.length : Int) := od
            obtain ⟨ad378, e378, hx378_0, hx378_1⟩ := at_T38 HR0.out x3_1 p378 q378
            have hw378_1 := hx378_1
            have hw378_0 := hx378_0
            obtain rfl : ad376 = ad378 := (by injection e378)
            replace hx378_0 := cu HB.out hx378_0
            replace hx378_1 := cu HB.out hx378_1
            replace p378 := eq_true p378
            replace q378 := eq_true q378
            have p379 : 0 ≤ ((ji10) : Int) := od
            have q379 : (ji10) < (l0.length : Int) := od
            obtain ⟨ad379, e379, hx379_0, hx379_1⟩ := at_T38 HR0.out (ji10) p379 q379
            have hw379_1 := hx379_1
            have hw379_0 := hx379_0
            obtain rfl : ad376 = ad379 := (by injection e379)
            replace hx379_0 := cu HB.out hx379_0
            replace hx379_1 := cu HB.out hx379_1
            replace p379 := eq_true p379
            replace q379 := eq_true q379
            have p380 : 0 ≤ (x3_1 : Int) := od
            have q380 : x3_1 < (l0.length : Int) := od
            obtain ⟨ad380, e380, hx380_0, hx380_1⟩ := at_T38 HR0.out x3_1 p380 q380
            have hw380_1 := hx380_1
            have hw380_0 := hx380_0
            obtain rfl : ad376 = ad380 := (by injection e380)
            replace hx380_0 := cu HB.out hx380_0
            replace hx380_1 := cu HB.out hx380_1
            replace p380 := eq_true p380
            replace q380 := eq_true q380
            refine start_ (n := 34) (S := fun w' => w'.cell? (ad376.add ((x3_1).toNat * 2)) = some (.string ((rd_T38 l0 x3_1).f0)) ∧ w'.cell? ⟨(ad376.add ((x3_1).toNat * 2)).block, (ad376.add ((x3_1).toNat * 2)).off + 1, none⟩ = some (.string ((rd_T38 l0 x3_1).f1)) ∧ w'.cell? (ad376.add ((x3_1).toNat * 2)) = some (.string ((rd_T38 l0 x3_1).f0)) ∧ w'.cell? ⟨(ad376.add ((x3_1).toNat * 2)).block, (ad376.add ((x3_1).toNat * 2)).off + 1, none⟩ = some (.string ((rd_T38 l0 x3_1).f1)) ∧ w'.cell? (ad376.add (((ji10)).toNat * 2)) = some (.string ((rd_T38 l0 (ji10)).f0)) ∧ w'.cell? ⟨(ad376.add (((ji10)).toNat * 2)).block, (ad376.add (((ji10)).toNat * 2)).off + 1, none⟩ = some (.string ((rd_T38 l0 (ji10)).f1)) ∧ w'.cell? (ad376.add ((x3_1).toNat * 2)) = some (.string ((rd_T38 l0 x3_1).f0)) ∧ w'.cell? ⟨(ad376.add ((x3_1).toNat * 2)).block, (ad376.add ((x3_1).toNat * 2)).off + 1, none⟩ = some (.string ((rd_T38 l0 x3_1).f1))) (ds := []) #[N_,N_,N_,N_,N_,N_,N_,N_,N_,N_,N_,N_,N_,N_,N_,N_,N_,N_,N_,N_,N_,N_,N_,N_,N_,N_,N_,N_,N_,N_,N_,N_,N_,N_] (by kernel_rfl) rfl rfl ⟨(cu HB.out hw376_0 :), (cu HB.out hw376_1 :), (cu HB.out hw378_0 :), (cu HB.out hw378_1 :), (cu HB.out hw379_0 :), (cu HB.out hw379_1 :), (cu HB.out hw380_0 :), (cu HB.out hw380_1 :)⟩ (fun hHeld => ?_); refine with_tabW archivistref06_Right.tab6 archivistref06_Right.bits6 (fun HT_ HW_ => ?_)
            generalize wr.drew = w15 at HB hx376_0 hx376_1 hx378_0 hx378_1 hx379_0 hx379_1 hx380_0 hx380_1 hHeld ⊢
            refine pY 0 13 #[J_,N_,N_,N_,N_,N_,N_,N_,N_,N_,N_,N_,N_,N_,N_,N_,N_,N_,N_,N_,N_,N_,N_,N_,N_,N_,N_,N_,N_,N_,N_,N_,N_,N_] HT_.out ?_
            refine pY 1 14 #[J_,J_,N_,N_,N_,N_,N_,N_,N_,N_,N_,N_,N_,N_,N_,N_,N_,N_,N_,N_,N_,N_,N_,N_,N_,N_,N_,N_,N_,N_,N_,N_,N_,N_] HT_.out ?_
            refine pY 2 15 #[J_,J_,J_,N_,N_,N_,N_,N_,N_,N_,N_,N_,N_,N_,N_,N_,N_,N_,N_,N_,N_,N_,N_,N_,N_,N_,N_,N_,N_,N_,N_,N_,N_,N_] HT_.out ?_
            refine pY 3 16 #[J_,J_,J_,J_,N_,N_,N_,N_,N_,N_,N_,N_,N_,N_,N_,N_,N_,N_,N_,N_,N_,N_,N_,N_,N_,N_,N_,N_,N_,N_,N_,N_,N_,N_] HT_.out ?_
            refine take_ (i := 4) (N := some 17) (v := ?_) (a' := ?_) #[J_,J_,J_,J_,J_,N_,N_,N_,N_,N_,N_,N_,N_,N_,N_,N_,N_,N_,N_,N_,N_,N_,N_,N_,N_,N_,N_,N_,N_,N_,N_,N_,N_,N_] rfl rfl (take_ofW HT_.out HW_.out (by kernel_rfl)) (fun _ _ _ h => h) (Or.inl ⟨by rfl, ?_⟩) hHeld ?_ ?_
            rotate_left
            ·rintro w' ⟨s0, s1, s2, s3, s4, s5, s6, s7⟩
             go_simp
             with_reducible rfl
            rotate_left
            ·simp only [Act.put, List.setIfInBounds_toArray, List.set_cons_zero, List.set_cons_succ, i64_w, i32_w]
             rfl
            refine one_ (i := 5) (N := some 18) #[J_,J_,J_,J_,J_,J_,N_,N_,N_,N_,N_,N_,N_,N_,N_,N_,N_,N_,N_,N_,N_,N_,N_,N_,N_,N_,N_,N_,N_,N_,N_,N_,N_,N_] rfl rfl (one_of HT_.out (by kernel_rfl)) (by decide) (fun K hK => ?_)
            refine goes_ Try.func26 (by kernel_rfl) rfl #[.string ((rd_T38 l0 x3_1).f0)] (by rfl) rfl rfl ml ?_
            with_reducible refine (archivistref06_Name.calls _ _ _ _ A5.out).mono ?_
            rintro e w' ⟨rfl, ⟨nd, rfl⟩⟩
            refine ⟨_, rfl, ?_⟩
            refine hK.out _ _ ⟨(cu HB.out hw376_0 :), (cu HB.out hw376_1 :), (cu HB.out hw378_0 :), (cu HB.out hw378_1 :), (cu HB.out hw379_0 :), (cu HB.out hw379_1 :), (cu HB.out hw380_0 :), (cu HB.out hw380_1 :)⟩ (fun hHeld => ?_)
            clear hK K
            refine norm_ (a' := ?_) ?_ ?_
            rotate_left
            ·show Act.put _ (some 18) _ = _
             simp only [Act.put, List.setIfInBounds_toArray, List.set_cons_zero, List.set_cons_succ, i64_w, i32_w]
             rfl
            refine pY 6 19 #[J_,J_,J_,J_,J_,J_,J_,N_,N_,N_,N_,N_,N_,N_,N_,N_,N_,N_,N_,N_,N_,N_,N_,N_,N_,N_,N_,N_,N_,N_,N_,N_,N_,N_] HT_.out ?_
            refine pY 7 20 #[J_,J_,J_,J_,J_,J_,J_,J_,N_,N_,N_,N_,N_,N_,N_,N_,N_,N_,N_,N_,N_,N_,N_,N_,N_,N_,N_,N_,N_,N_,N_,N_,N_,N_] HT_.out ?_
            refine pY 8 21 #[J_,J_,J_,J_,J_,J_,J_,J_,J_,N_,N_,N_,N_,N_,N_,N_,N_,N_,N_,N_,N_,N_,N_,N_,N_,N_,N_,N_,N_,N_,N_,N_,N_,N_] HT_.out ?_
            refine pY 9 22 #[J_,J_,J_,J_,J_,J_,J_,J_,J_,J_,N_,N_,N_,N_,N_,N_,N_,N_,N_,N_,N_,N_,N_,N_,N_,N_,N_,N_,N_,N_,N_,N_,N_,N_] HT_.out ?_
            refine pY 10 23 #[J_,J_,J_,J_,J_,J_,J_,J_,J_,J_,J_,N_,N_,N_,N_,N_,N_,N_,N_,N_,N_,N_,N_,N_,N_,N_,N_,N_,N_,N_,N_,N_,N_,N_] HT_.out ?_
            refine pY 11 24 #[J_,J_,J_,J_,J_,J_,J_,J_,J_,J_,J_,J_,N_,N_,N_,N_,N_,N_,N_,N_,N_,N_,N_,N_,N_,N_,N_,N_,N_,N_,N_,N_,N_,N_] HT_.out ?_
            refine take_ (i := 12) (N := some 25) (v := ?_) (a' := ?_) #[J_,J_,J_,J_,J_,J_,J_,J_,J_,J_,J_,J_,J_,N_,N_,N_,N_,N_,N_,N_,N_,N_,N_,N_,N_,N_,N_,N_,N_,N_,N_,N_,N_,N_] rfl rfl (take_ofW HT_.out HW_.out (by kernel_rfl)) (fun _ _ _ h => h) (Or.inl ⟨by rfl, ?_⟩) hHeld ?_ ?_
            rotate_left
            ·rintro w' ⟨s0, s1, s2, s3, s4, s5, s6, s7⟩
             go_simp
             with_reducible rfl
            rotate_left
            ·simp only [Act.put, List.setIfInBounds_toArray, List.set_cons_zero, List.set_cons_succ, i64_w, i32_w]
             rfl
            refine pY 13 26 #[J_,J_,J_,J_,J_,J_,J_,J_,J_,J_,J_,J_,J_,J_,N_,N_,N_,N_,N_,N_,N_,N_,N_,N_,N_,N_,N_,N_,N_,N_,N_,N_,N_,N_] HT_.out ?_
            refine pY 14 27 #[J_,J_,J_,J_,J_,J_,J_,J_,J_,J_,J_,J_,J_,J_,J_,N_,N_,N_,N_,N_,N_,N_,N_,N_,N_,N_,N_,N_,N_,N_,N_,N_,N_,N_] HT_.out ?_
            refine pY 15 28 #[J_,J_,J_,J_,J_,J_,J_,J_,J_,J_,J_,J_,J_,J_,J_,J_,N_,N_,N_,N_,N_,N_,N_,N_,N_,N_,N_,N_,N_,N_,N_,N_,N_,N_] HT_.out ?_
            refine pY 16 29 #[J_,J_,J_,J_,J_,J_,J_,J_,J_,J_,J_,J_,J_,J_,J_,J_,J_,N_,N_,N_,N_,N_,N_,N_,N_,N_,N_,N_,N_,N_,N_,N_,N_,N_] HT_.out ?_
            refine pY 17 30 #[J_,J_,J_,J_,J_,J_,J_,J_,J_,J_,J_,J_,J_,J_,J_,J_,J_,J_,N_,N_,N_,N_,N_,N_,N_,N_,N_,N_,N_,N_,N_,N_,N_,N_] HT_.out ?_
            refine pY 18 31 #[J_,J_,J_,J_,J_,J_,J_,J_,J_,J_,J_,J_,J_,J_,J_,J_,J_,J_,J_,N_,N_,N_,N_,N_,N_,N_,N_,N_,N_,N_,N_,N_,N_,N_] HT_.out ?_
            refine pY 19 32 #[J_,J_,J_,J_,J_,J_,J_,J_,J_,J_,J_,J_,J_,J_,J_,J_,J_,J_,J_,J_,N_,N_,N_,N_,N_,N_,N_,N_,N_,N_,N_,N_,N_,N_] HT_.out ?_
            refine pY 20 33 #[J_,J_,J_,J_,J_,J_,J_,J_,J_,J_,J_,J_,J_,J_,J_,J_,J_,J_,J_,J_,J_,N_,N_,N_,N_,N_,N_,N_,N_,N_,N_,N_,N_,N_] HT_.out ?_
            refine pY 21 34 #[J_,J_,J_,J_,J_,J_,J_,J_,J_,J_,J_,J_,J_,J_,J_,J_,J_,J_,J_,J_,J_,J_,N_,N_,N_,N_,N_,N_,N_,N_,N_,N_,N_,N_] HT_.out ?_
            refine pY 22 35 #[J_,J_,J_,J_,J_,J_,J_,J_,J_,J_,J_,J_,J_,J_,J_,J_,J_,J_,J_,J_,J_,J_,J_,N_,N_,N_,N_,N_,N_,N_,N_,N_,N_,N_] HT_.out ?_
            refine pY 23 36 #[J_,J_,J_,J_,J_,J_,J_,J_,J_,J_,J_,J_,J_,J_,J_,J_,J_,J_,J_,J_,J_,J_,J_,J_,N_,N_,N_,N_,N_,N_,N_,N_,N_,N_] HT_.out ?_
            refine pY 24 37 #[J_,J_,J_,J_,J_,J_,J_,J_,J_,J_,J_,J_,J_,J_,J_,J_,J_,J_,J_,J_,J_,J_,J_,J_,J_,N_,N_,N_,N_,N_,N_,N_,N_,N_] HT_.out ?_
            refine pY 26 39 #[J_,J_,J_,J_,J_,J_,J_,J_,J_,J_,J_,J_,J_,J_,J_,J_,J_,J_,J_,J_,J_,J_,J_,J_,J_,N_,J_,N_,N_,N_,N_,N_,N_,N_] HT_.out ?_
            refine pY 27 40 #[J_,J_,J_,J_,J_,J_,J_,J_,J_,J_,J_,J_,J_,J_,J_,J_,J_,J_,J_,J_,J_,J_,J_,J_,J_,N_,J_,J_,N_,N_,N_,N_,N_,N_] HT_.out ?_
            refine pY 28 41 #[J_,J_,J_,J_,J_,J_,J_,J_,J_,J_,J_,J_,J_,J_,J_,J_,J_,J_,J_,J_,J_,J_,J_,J_,J_,N_,J_,J_,J_,N_,N_,N_,N_,N_] HT_.out ?_
            refine pY 29 42 #[J_,J_,J_,J_,J_,J_,J_,J_,J_,J_,J_,J_,J_,J_,J_,J_,J_,J_,J_,J_,J_,J_,J_,J_,J_,N_,J_,J_,J_,J_,N_,N_,N_,N_] HT_.out ?_
            refine take_ (i := 25) (N := some 38) (v := ?_) (a' := ?_) #[J_,J_,J_,J_,J_,J_,J_,J_,J_,J_,J_,J_,J_,J_,J_,J_,J_,J_,J_,J_,J_,J_,J_,J_,J_,J_,J_,J_,J_,J_,N_,N_,N_,N_] rfl rfl (take_ofW HT_.out HW_.out (by kernel_rfl)) (fun _ _ _ h => h) (Or.inl ⟨by rfl, ?_⟩) hHeld ?_ ?_
            rotate_left
            ·rintro w' ⟨s0, s1, s2, s3, s4, s5, s6, s7⟩
             go_simp
             with_reducible rfl
            rotate_left
            ·simp only [Act.put, List.setIfInBounds_toArray, List.set_cons_zero, List.set_cons_succ, i64_w, i32_w]
             rfl
            refine take_ (i := 30) (N := some 43) (v := ?_) (a' := ?_) #[J_,J_,J_,J_,J_,J_,J_,J_,J_,J_,J_,J_,J_,J_,J_,J_,J_,J_,J_,J_,J_,J_,J_,J_,J_,J_,J_,J_,J_,J_,J_,N_,N_,N_] rfl rfl (take_ofW HT_.out HW_.out (by kernel_rfl)) (fun _ _ _ h => h) (Or.inl ⟨by rfl, ?_⟩) hHeld ?_ ?_
            rotate_left
            ·rintro w' ⟨s0, s1, s2, s3, s4, s5, s6, s7⟩
             go_simp
             with_reducible rfl
            rotate_left
            ·simp only [Act.put, List.setIfInBounds_toArray, List.set_cons_zero, List.set_cons_succ, i64_w, i32_w]
             rfl
            refine pY 31 44 #[J_,J_,J_,J_,J_,J_,J_,J_,J_,J_,J_,J_,J_,J_,J_,J_,J_,J_,J_,J_,J_,J_,J_,J_,J_,J_,J_,J_,J_,J_,J_,J_,N_,N_] HT_.out ?_
            refine pY 32 45 #[J_,J_,J_,J_,J_,J_,J_,J_,J_,J_,J_,J_,J_,J_,J_,J_,J_,J_,J_,J_,J_,J_,J_,J_,J_,J_,J_,J_,J_,J_,J_,J_,J_,N_] HT_.out ?_
            refine pY 33 46 #[J_,J_,J_,J_,J_,J_,J_,J_,J_,J_,J_,J_,J_,J_,J_,J_,J_,J_,J_,J_,J_,J_,J_,J_,J_,J_,J_,J_,J_,J_,J_,J_,J_,J_] HT_.out ?_
            refine done_ (done_of HT_.out (by kernel_rfl)) ?_
            try go_wp2
            go_ret
            exact ⟨by first | rfl | (simp [errW_none, errW_some] <;> rfl) | (simp only [← hji10]; first | rfl | (simp [errW_none, errW_some] <;> rfl)) | (simp [*, errW_none, errW_some] <;> rfl), bl⟩
          ·rw [if_neg c12] at H
           exact absurd H (by simp)
         ·rw [if_neg c11] at H
          exact absurd H (by simp)
        ·rw [if_neg c9] at H
         have c9b0 : decide (0 < x3_1) = false := decide_eq_false c9
         clear c9
         have H' := Aside0.mk H
         clear H
         try go_wp2
         have n0_ := Aside0.mk (below_drew1 HB.out)
         clear HB
         have HB := n0_
         clear n0_
         have p376 : 0 ≤ (x3_1 : Int) := od
         have q376 : x3_1 < (l0.length : Int) := od
         obtain ⟨ad376, e376, hx376_0, hx376_1⟩ := at_T38 HR0.out x3_1 p376 q376
         have hw376_1 := hx376_1
         have hw376_0 := hx376_0
         cases e376
         replace hx376_0 := cu HB.out hx376_0
         replace hx376_1 := cu HB.out hx376_1
         replace p376 := eq_true p376
         replace q376 := eq_true q376
         have p378 : 0 ≤ (x3_1 : Int) := od
         have q378 : x3_1 < (l0.length : Int) := od
         obtain ⟨ad378, e378, hx378_0, hx378_1⟩ := at_T38 HR0.out x3_1 p378 q378
         have hw378_1 := hx378_1
         have hw378_0 := hx378_0
         obtain rfl : ad376 = ad378 := (by injection e378)
         replace hx378_0 := cu HB.out hx378_0
         replace hx378_1 := cu HB.out hx378_1
         replace p378 := eq_true p378
         replace q378 := eq_true q378
         refine start_ (n := 34) (S := fun w' => w'.cell? (ad376.add ((x3_1).toNat * 2)) = some (.string ((rd_T38 l0 x3_1).f0)) ∧ w'.cell? ⟨(ad376.add ((x3_1).toNat * 2)).block, (ad376.add ((x3_1).toNat * 2)).off + 1, none⟩ = some (.string ((rd_T38 l0 x3_1).f1)) ∧ w'.cell? (ad376.add ((x3_1).toNat * 2)) = some (.string ((rd_T38 l0 x3_1).f0)) ∧ w'.cell? ⟨(ad376.add ((x3_1).toNat * 2)).block, (ad376.add ((x3_1).toNat * 2)).off + 1, none⟩ = some (.string ((rd_T38 l0 x3_1).f1))) (ds := []) #[N_,N_,N_,N_,N_,N_,N_,N_,N_,N_,N_,N_,N_,N_,N_,N_,N_,N_,N_,N_,N_,N_,N_,N_,N_,N_,N_,N_,N_,N_,N_,N_,N_,N_] (by kernel_rfl) rfl rfl ⟨(cu HB.out hw376_0 :), (cu HB.out hw376_1 :), (cu HB.out hw378_0 :), (cu HB.out hw378_1 :)⟩ (fun hHeld => ?_); refine with_tabW archivistref06_Right.tab6 archivistref06_Right.bits6 (fun HT_ HW_ => ?_)
         generalize wr.drew = w16 at HB hx376_0 hx376_1 hx378_0 hx378_1 hHeld ⊢
         refine pY 0 13 #[J_,N_,N_,N_,N_,N_,N_,N_,N_,N_,N_,N_,N_,N_,N_,N_,N_,N_,N_,N_,N_,N_,N_,N_,N_,N_,N_,N_,N_,N_,N_,N_,N_,N_] HT_.out ?_
         refine pY 1 14 #[J_,J_,N_,N_,N_,N_,N_,N_,N_,N_,N_,N_,N_,N_,N_,N_,N_,N_,N_,N_,N_,N_,N_,N_,N_,N_,N_,N_,N_,N_,N_,N_,N_,N_] HT_.out ?_
         refine pY 2 15 #[J_,J_,J_,N_,N_,N_,N_,N_,N_,N_,N_,N_,N_,N_,N_,N_,N_,N_,N_,N_,N_,N_,N_,N_,N_,N_,N_,N_,N_,N_,N_,N_,N_,N_] HT_.out ?_
         refine pY 3 16 #[J_,J_,J_,J_,N_,N_,N_,N_,N_,N_,N_,N_,N_,N_,N_,N_,N_,N_,N_,N_,N_,N_,N_,N_,N_,N_,N_,N_,N_,N_,N_,N_,N_,N_] HT_.out ?_
         refine take_ (i := 4) (N := some 17) (v := ?_) (a' := ?_) #[J_,J_,J_,J_,J_,N_,N_,N_,N_,N_,N_,N_,N_,N_,N_,N_,N_,N_,N_,N_,N_,N_,N_,N_,N_,N_,N_,N_,N_,N_,N_,N_,N_,N_] rfl rfl (take_ofW HT_.out HW_.out (by kernel_rfl)) (fun _ _ _ h => h) (Or.inl ⟨by rfl, ?_⟩) hHeld ?_ ?_
         rotate_left
         ·rintro w' ⟨s0, s1, s2, s3⟩
          go_simp
          with_reducible rfl
         rotate_left
         ·simp only [Act.put, List.setIfInBounds_toArray, List.set_cons_zero, List.set_cons_succ, i64_w, i32_w]
          rfl
         refine one_ (i := 5) (N := some 18) #[J_,J_,J_,J_,J_,J_,N_,N_,N_,N_,N_,N_,N_,N_,N_,N_,N_,N_,N_,N_,N_,N_,N_,N_,N_,N_,N_,N_,N_,N_,N_,N_,N_,N_] rfl rfl (one_of HT_.out (by kernel_rfl)) (by decide) (fun K hK => ?_)
         refine goes_ Try.func26 (by kernel_rfl) rfl #[.string ((rd_T38 l0 x3_1).f0)] (by rfl) rfl rfl ml ?_
         with_reducible refine (archivistref06_Name.calls _ _ _ _ A5.out).mono ?_
         rintro e w' ⟨rfl, ⟨nd, rfl⟩⟩
         refine ⟨_, rfl, ?_⟩
         refine hK.out _ _ ⟨(cu HB.out hw376_0 :), (cu HB.out hw376_1 :), (cu HB.out hw378_0 :), (cu HB.out hw378_1 :)⟩ (fun hHeld => ?_)
         clear hK K
         refine norm_ (a' := ?_) ?_ ?_
         rotate_left
         ·show Act.put _ (some 18) _ = _
          simp only [Act.put, List.setIfInBounds_toArray, List.set_cons_zero, List.set_cons_succ, i64_w, i32_w]
          rfl
         refine pY 6 19 #[J_,J_,J_,J_,J_,J_,J_,N_,N_,N_,N_,N_,N_,N_,N_,N_,N_,N_,N_,N_,N_,N_,N_,N_,N_,N_,N_,N_,N_,N_,N_,N_,N_,N_] HT_.out ?_
         refine pY 7 20 #[J_,J_,J_,J_,J_,J_,J_,J_,N_,N_,N_,N_,N_,N_,N_,N_,N_,N_,N_,N_,N_,N_,N_,N_,N_,N_,N_,N_,N_,N_,N_,N_,N_,N_] HT_.out ?_
         refine pY 8 21 #[J_,J_,J_,J_,J_,J_,J_,J_,J_,N_,N_,N_,N_,N_,N_,N_,N_,N_,N_,N_,N_,N_,N_,N_,N_,N_,N_,N_,N_,N_,N_,N_,N_,N_] HT_.out ?_
         refine pY 9 22 #[J_,J_,J_,J_,J_,J_,J_,J_,J_,J_,N_,N_,N_,N_,N_,N_,N_,N_,N_,N_,N_,N_,N_,N_,N_,N_,N_,N_,N_,N_,N_,N_,N_,N_] HT_.out ?_
         refine pY 10 23 #[J_,J_,J_,J_,J_,J_,J_,J_,J_,J_,J_,N_,N_,N_,N_,N_,N_,N_,N_,N_,N_,N_,N_,N_,N_,N_,N_,N_,N_,N_,N_,N_,N_,N_] HT_.out ?_
         refine pY 11 24 #[J_,J_,J_,J_,J_,J_,J_,J_,J_,J_,J_,J_,N_,N_,N_,N_,N_,N_,N_,N_,N_,N_,N_,N_,N_,N_,N_,N_,N_,N_,N_,N_,N_,N_] HT_.out ?_
         refine take_ (i := 12) (N := some 25) (v := ?_) (a' := ?_) #[J_,J_,J_,J_,J_,J_,J_,J_,J_,J_,J_,J_,J_,N_,N_,N_,N_,N_,N_,N_,N_,N_,N_,N_,N_,N_,N_,N_,N_,N_,N_,N_,N_,N_] rfl rfl (take_ofW HT_.out HW_.out (by kernel_rfl)) (fun _ _ _ h => h) (Or.inl ⟨by rfl, ?_⟩) hHeld ?_ ?_
         rotate_left
         ·rintro w' ⟨s0, s1, s2, s3⟩
          go_simp
          with_reducible rfl
         rotate_left
         ·simp only [Act.put, List.setIfInBounds_toArray, List.set_cons_zero, List.set_cons_succ, i64_w, i32_w]
          rfl
         refine pY 13 26 #[J_,J_,J_,J_,J_,J_,J_,J_,J_,J_,J_,J_,J_,J_,N_,N_,N_,N_,N_,N_,N_,N_,N_,N_,N_,N_,N_,N_,N_,N_,N_,N_,N_,N_] HT_.out ?_
         refine pY 14 27 #[J_,J_,J_,J_,J_,J_,J_,J_,J_,J_,J_,J_,J_,J_,J_,N_,N_,N_,N_,N_,N_,N_,N_,N_,N_,N_,N_,N_,N_,N_,N_,N_,N_,N_] HT_.out ?_
         refine pY 15 28 #[J_,J_,J_,J_,J_,J_,J_,J_,J_,J_,J_,J_,J_,J_,J_,J_,N_,N_,N_,N_,N_,N_,N_,N_,N_,N_,N_,N_,N_,N_,N_,N_,N_,N_] HT_.out ?_
         refine pY 16 29 #[J_,J_,J_,J_,J_,J_,J_,J_,J_,J_,J_,J_,J_,J_,J_,J_,J_,N_,N_,N_,N_,N_,N_,N_,N_,N_,N_,N_,N_,N_,N_,N_,N_,N_] HT_.out ?_
         refine pY 17 30 #[J_,J_,J_,J_,J_,J_,J_,J_,J_,J_,J_,J_,J_,J_,J_,J_,J_,J_,N_,N_,N_,N_,N_,N_,N_,N_,N_,N_,N_,N_,N_,N_,N_,N_] HT_.out ?_
         refine pY 18 31 #[J_,J_,J_,J_,J_,J_,J_,J_,J_,J_,J_,J_,J_,J_,J_,J_,J_,J_,J_,N_,N_,N_,N_,N_,N_,N_,N_,N_,N_,N_,N_,N_,N_,N_] HT_.out ?_
         refine pY 19 32 #[J_,J_,J_,J_,J_,J_,J_,J_,J_,J_,J_,J_,J_,J_,J_,J_,J_,J_,J_,J_,N_,N_,N_,N_,N_,N_,N_,N_,N_,N_,N_,N_,N_,N_] HT_.out ?_
         refine pU 20 33 #[J_,J_,J_,J_,J_,J_,J_,J_,J_,J_,J_,J_,J_,J_,J_,J_,J_,J_,J_,J_,J_,N_,N_,N_,N_,N_,N_,N_,N_,N_,N_,N_,N_,N_] HT_.out ?_
         refine pU 21 34 #[J_,J_,J_,J_,J_,J_,J_,J_,J_,J_,J_,J_,J_,J_,J_,J_,J_,J_,J_,J_,J_,J_,N_,N_,N_,N_,N_,N_,N_,N_,N_,N_,N_,N_] HT_.out ?_
         refine pU 22 35 #[J_,J_,J_,J_,J_,J_,J_,J_,J_,J_,J_,J_,J_,J_,J_,J_,J_,J_,J_,J_,J_,J_,J_,N_,N_,N_,N_,N_,N_,N_,N_,N_,N_,N_] HT_.out ?_
         refine pU 23 36 #[J_,J_,J_,J_,J_,J_,J_,J_,J_,J_,J_,J_,J_,J_,J_,J_,J_,J_,J_,J_,J_,J_,J_,J_,N_,N_,N_,N_,N_,N_,N_,N_,N_,N_] HT_.out ?_
         refine pU 24 37 #[J_,J_,J_,J_,J_,J_,J_,J_,J_,J_,J_,J_,J_,J_,J_,J_,J_,J_,J_,J_,J_,J_,J_,J_,J_,N_,N_,N_,N_,N_,N_,N_,N_,N_] HT_.out ?_
         refine pU 25 38 #[J_,J_,J_,J_,J_,J_,J_,J_,J_,J_,J_,J_,J_,J_,J_,J_,J_,J_,J_,J_,J_,J_,J_,J_,J_,J_,N_,N_,N_,N_,N_,N_,N_,N_] HT_.out ?_
         refine pU 26 39 #[J_,J_,J_,J_,J_,J_,J_,J_,J_,J_,J_,J_,J_,J_,J_,J_,J_,J_,J_,J_,J_,J_,J_,J_,J_,J_,J_,N_,N_,N_,N_,N_,N_,N_] HT_.out ?_
         refine pU 27 40 #[J_,J_,J_,J_,J_,J_,J_,J_,J_,J_,J_,J_,J_,J_,J_,J_,J_,J_,J_,J_,J_,J_,J_,J_,J_,J_,J_,J_,N_,N_,N_,N_,N_,N_] HT_.out ?_
         refine pU 28 41 #[J_,J_,J_,J_,J_,J_,J_,J_,J_,J_,J_,J_,J_,J_,J_,J_,J_,J_,J_,J_,J_,J_,J_,J_,J_,J_,J_,J_,J_,N_,N_,N_,N_,N_] HT_.out ?_
         refine pU 29 42 #[J_,J_,J_,J_,J_,J_,J_,J_,J_,J_,J_,J_,J_,J_,J_,J_,J_,J_,J_,J_,J_,J_,J_,J_,J_,J_,J_,J_,J_,J_,N_,N_,N_,N_] HT_.out ?_
         refine pU 30 43 #[J_,J_,J_,J_,J_,J_,J_,J_,J_,J_,J_,J_,J_,J_,J_,J_,J_,J_,J_,J_,J_,J_,J_,J_,J_,J_,J_,J_,J_,J_,J_,N_,N_,N_] HT_.out ?_
         refine pU 31 44 #[J_,J_,J_,J_,J_,J_,J_,J_,J_,J_,J_,J_,J_,J_,J_,J_,J_,J_,J_,J_,J_,J_,J_,J_,J_,J_,J_,J_,J_,J_,J_,J_,N_,N_] HT_.out ?_
         refine pY 32 45 #[J_,J_,J_,J_,J_,J_,J_,J_,J_,J_,J_,J_,J_,J_,J_,J_,J_,J_,J_,J_,J_,J_,J_,J_,J_,J_,J_,J_,J_,J_,J_,J_,J_,N_] HT_.out ?_
         refine pY 33 46 #[J_,J_,J_,J_,J_,J_,J_,J_,J_,J_,J_,J_,J_,J_,J_,J_,J_,J_,J_,J_,J_,J_,J_,J_,J_,J_,J_,J_,J_,J_,J_,J_,J_,J_] HT_.out ?_
         refine done_ (done_of HT_.out (by kernel_rfl)) ?_
         try go_wp2
         go_roundg k1
         case measure => have := HK1.out; omega
         case rel => exact ⟨(wrap64 (x3_1 + 1)), rs, H', ⟨by have := HK1.out; omega⟩, ⟨bl⟩⟩
      ·replace c6 := Bool.eq_false_iff.mpr c6
       subst c6
       have H1 : (some false) = some r := by rw [if_neg (show ¬ (false = true) by decide)] at H; exact H
       clear H
       have H := H1
       clear H1
       obtain rfl := Option.some.inj H
       try go_wp2
       have n0_ := Aside0.mk (below_drew1 HB.out)
       clear HB
       have HB := n0_
       clear n0_
       have p376 : 0 ≤ (x3_1 : Int) := od
       have q376 : x3_1 < (l0.length : Int) := od
       obtain ⟨ad376, e376, hx376_0, hx376_1⟩ := at_T38 HR0.out x3_1 p376 q376
       have hw376_1 := hx376_1
       have hw376_0 := hx376_0
       cases e376
       replace hx376_0 := cu HB.out hx376_0
       replace hx376_1 := cu HB.out hx376_1
       replace p376 := eq_true p376
       replace q376 := eq_true q376
       refine start_ (n := 34) (S := fun w' => w'.cell? (ad376.add ((x3_1).toNat * 2)) = some (.string ((rd_T38 l0 x3_1).f0)) ∧ w'.cell? ⟨(ad376.add ((x3_1).toNat * 2)).block, (ad376.add ((x3_1).toNat * 2)).off + 1, none⟩ = some (.string ((rd_T38 l0 x3_1).f1))) (ds := []) #[N_,N_,N_,N_,N_,N_,N_,N_,N_,N_,N_,N_,N_,N_,N_,N_,N_,N_,N_,N_,N_,N_,N_,N_,N_,N_,N_,N_,N_,N_,N_,N_,N_,N_] (by kernel_rfl) rfl rfl ⟨(cu HB.out hw376_0 :), (cu HB.out hw376_1 :)⟩ (fun hHeld => ?_); refine with_tabW archivistref06_Right.tab6 archivistref06_Right.bits6 (fun HT_ HW_ => ?_)
       generalize wr.drew = w17 at HB hx376_0 hx376_1 hHeld ⊢
       refine pY 0 13 #[J_,N_,N_,N_,N_,N_,N_,N_,N_,N_,N_,N_,N_,N_,N_,N_,N_,N_,N_,N_,N_,N_,N_,N_,N_,N_,N_,N_,N_,N_,N_,N_,N_,N_] HT_.out ?_
       refine pY 1 14 #[J_,J_,N_,N_,N_,N_,N_,N_,N_,N_,N_,N_,N_,N_,N_,N_,N_,N_,N_,N_,N_,N_,N_,N_,N_,N_,N_,N_,N_,N_,N_,N_,N_,N_] HT_.out ?_
       refine pY 2 15 #[J_,J_,J_,N_,N_,N_,N_,N_,N_,N_,N_,N_,N_,N_,N_,N_,N_,N_,N_,N_,N_,N_,N_,N_,N_,N_,N_,N_,N_,N_,N_,N_,N_,N_] HT_.out ?_
       refine pY 3 16 #[J_,J_,J_,J_,N_,N_,N_,N_,N_,N_,N_,N_,N_,N_,N_,N_,N_,N_,N_,N_,N_,N_,N_,N_,N_,N_,N_,N_,N_,N_,N_,N_,N_,N_] HT_.out ?_
       refine take_ (i := 4) (N := some 17) (v := ?_) (a' := ?_) #[J_,J_,J_,J_,J_,N_,N_,N_,N_,N_,N_,N_,N_,N_,N_,N_,N_,N_,N_,N_,N_,N_,N_,N_,N_,N_,N_,N_,N_,N_,N_,N_,N_,N_] rfl rfl (take_ofW HT_.out HW_.out (by kernel_rfl)) (fun _ _ _ h => h) (Or.inl ⟨by rfl, ?_⟩) hHeld ?_ ?_
       rotate_left
       ·rintro w' ⟨s0, s1⟩
        go_simp
        with_reducible rfl
       rotate_left
       ·simp only [Act.put, List.setIfInBounds_toArray, List.set_cons_zero, List.set_cons_succ, i64_w, i32_w]
        rfl
       refine one_ (i := 5) (N := some 18) #[J_,J_,J_,J_,J_,J_,N_,N_,N_,N_,N_,N_,N_,N_,N_,N_,N_,N_,N_,N_,N_,N_,N_,N_,N_,N_,N_,N_,N_,N_,N_,N_,N_,N_] rfl rfl (one_of HT_.out (by kernel_rfl)) (by decide) (fun K hK => ?_)
       refine goes_ Try.func26 (by kernel_rfl) rfl #[.string ((rd_T38 l0 x3_1).f0)] (by rfl) rfl rfl ml ?_
       with_reducible refine (archivistref06_Name.calls _ _ _ _ A5.out).mono ?_
       rintro e w' ⟨rfl, ⟨nd, rfl⟩⟩
       refine ⟨_, rfl, ?_⟩
       refine hK.out _ _ ⟨(cu HB.out hw376_0 :), (cu HB.out hw376_1 :)⟩ (fun hHeld => ?_)
       clear hK K
       refine norm_ (a' := ?_) ?_ ?_
       rotate_left
       ·show Act.put _ (some 18) _ = _
        simp only [Act.put, List.setIfInBounds_toArray, List.set_cons_zero, List.set_cons_succ, i64_w, i32_w]
        rfl
       refine pY 6 19 #[J_,J_,J_,J_,J_,J_,J_,N_,N_,N_,N_,N_,N_,N_,N_,N_,N_,N_,N_,N_,N_,N_,N_,N_,N_,N_,N_,N_,N_,N_,N_,N_,N_,N_] HT_.out ?_
       refine pY 7 20 #[J_,J_,J_,J_,J_,J_,J_,J_,N_,N_,N_,N_,N_,N_,N_,N_,N_,N_,N_,N_,N_,N_,N_,N_,N_,N_,N_,N_,N_,N_,N_,N_,N_,N_] HT_.out ?_
       refine pU 8 21 #[J_,J_,J_,J_,J_,J_,J_,J_,J_,N_,N_,N_,N_,N_,N_,N_,N_,N_,N_,N_,N_,N_,N_,N_,N_,N_,N_,N_,N_,N_,N_,N_,N_,N_] HT_.out ?_
       refine pU 9 22 #[J_,J_,J_,J_,J_,J_,J_,J_,J_,J_,N_,N_,N_,N_,N_,N_,N_,N_,N_,N_,N_,N_,N_,N_,N_,N_,N_,N_,N_,N_,N_,N_,N_,N_] HT_.out ?_
       refine pU 10 23 #[J_,J_,J_,J_,J_,J_,J_,J_,J_,J_,J_,N_,N_,N_,N_,N_,N_,N_,N_,N_,N_,N_,N_,N_,N_,N_,N_,N_,N_,N_,N_,N_,N_,N_] HT_.out ?_
       refine pU 11 24 #[J_,J_,J_,J_,J_,J_,J_,J_,J_,J_,J_,J_,N_,N_,N_,N_,N_,N_,N_,N_,N_,N_,N_,N_,N_,N_,N_,N_,N_,N_,N_,N_,N_,N_] HT_.out ?_
       refine pU 12 25 #[J_,J_,J_,J_,J_,J_,J_,J_,J_,J_,J_,J_,J_,N_,N_,N_,N_,N_,N_,N_,N_,N_,N_,N_,N_,N_,N_,N_,N_,N_,N_,N_,N_,N_] HT_.out ?_
       refine pU 13 26 #[J_,J_,J_,J_,J_,J_,J_,J_,J_,J_,J_,J_,J_,J_,N_,N_,N_,N_,N_,N_,N_,N_,N_,N_,N_,N_,N_,N_,N_,N_,N_,N_,N_,N_] HT_.out ?_
       refine pU 14 27 #[J_,J_,J_,J_,J_,J_,J_,J_,J_,J_,J_,J_,J_,J_,J_,N_,N_,N_,N_,N_,N_,N_,N_,N_,N_,N_,N_,N_,N_,N_,N_,N_,N_,N_] HT_.out ?_
       refine pY 15 28 #[J_,J_,J_,J_,J_,J_,J_,J_,J_,J_,J_,J_,J_,J_,J_,J_,N_,N_,N_,N_,N_,N_,N_,N_,N_,N_,N_,N_,N_,N_,N_,N_,N_,N_] HT_.out ?_
       refine pY 16 29 #[J_,J_,J_,J_,J_,J_,J_,J_,J_,J_,J_,J_,J_,J_,J_,J_,J_,N_,N_,N_,N_,N_,N_,N_,N_,N_,N_,N_,N_,N_,N_,N_,N_,N_] HT_.out ?_
       refine pU 17 30 #[J_,J_,J_,J_,J_,J_,J_,J_,J_,J_,J_,J_,J_,J_,J_,J_,J_,J_,N_,N_,N_,N_,N_,N_,N_,N_,N_,N_,N_,N_,N_,N_,N_,N_] HT_.out ?_
       refine pU 18 31 #[J_,J_,J_,J_,J_,J_,J_,J_,J_,J_,J_,J_,J_,J_,J_,J_,J_,J_,J_,N_,N_,N_,N_,N_,N_,N_,N_,N_,N_,N_,N_,N_,N_,N_] HT_.out ?_
       refine pU 19 32 #[J_,J_,J_,J_,J_,J_,J_,J_,J_,J_,J_,J_,J_,J_,J_,J_,J_,J_,J_,J_,N_,N_,N_,N_,N_,N_,N_,N_,N_,N_,N_,N_,N_,N_] HT_.out ?_
       refine pU 20 33 #[J_,J_,J_,J_,J_,J_,J_,J_,J_,J_,J_,J_,J_,J_,J_,J_,J_,J_,J_,J_,J_,N_,N_,N_,N_,N_,N_,N_,N_,N_,N_,N_,N_,N_] HT_.out ?_
       refine pU 21 34 #[J_,J_,J_,J_,J_,J_,J_,J_,J_,J_,J_,J_,J_,J_,J_,J_,J_,J_,J_,J_,J_,J_,N_,N_,N_,N_,N_,N_,N_,N_,N_,N_,N_,N_] HT_.out ?_
       refine pU 22 35 #[J_,J_,J_,J_,J_,J_,J_,J_,J_,J_,J_,J_,J_,J_,J_,J_,J_,J_,J_,J_,J_,J_,J_,N_,N_,N_,N_,N_,N_,N_,N_,N_,N_,N_] HT_.out ?_
       refine pU 23 36 #[J_,J_,J_,J_,J_,J_,J_,J_,J_,J_,J_,J_,J_,J_,J_,J_,J_,J_,J_,J_,J_,J_,J_,J_,N_,N_,N_,N_,N_,N_,N_,N_,N_,N_] HT_.out ?_
       refine pU 24 37 #[J_,J_,J_,J_,J_,J_,J_,J_,J_,J_,J_,J_,J_,J_,J_,J_,J_,J_,J_,J_,J_,J_,J_,J_,J_,N_,N_,N_,N_,N_,N_,N_,N_,N_] HT_.out ?_
       refine pU 25 38 #[J_,J_,J_,J_,J_,J_,J_,J_,J_,J_,J_,J_,J_,J_,J_,J_,J_,J_,J_,J_,J_,J_,J_,J_,J_,J_,N_,N_,N_,N_,N_,N_,N_,N_] HT_.out ?_
       refine pU 26 39 #[J_,J_,J_,J_,J_,J_,J_,J_,J_,J_,J_,J_,J_,J_,J_,J_,J_,J_,J_,J_,J_,J_,J_,J_,J_,J_,J_,N_,N_,N_,N_,N_,N_,N_] HT_.out ?_
       refine pU 27 40 #[J_,J_,J_,J_,J_,J_,J_,J_,J_,J_,J_,J_,J_,J_,J_,J_,J_,J_,J_,J_,J_,J_,J_,J_,J_,J_,J_,J_,N_,N_,N_,N_,N_,N_] HT_.out ?_
       refine pU 28 41 #[J_,J_,J_,J_,J_,J_,J_,J_,J_,J_,J_,J_,J_,J_,J_,J_,J_,J_,J_,J_,J_,J_,J_,J_,J_,J_,J_,J_,J_,N_,N_,N_,N_,N_] HT_.out ?_
       refine pU 29 42 #[J_,J_,J_,J_,J_,J_,J_,J_,J_,J_,J_,J_,J_,J_,J_,J_,J_,J_,J_,J_,J_,J_,J_,J_,J_,J_,J_,J_,J_,J_,N_,N_,N_,N_] HT_.out ?_
       refine pU 30 43 #[J_,J_,J_,J_,J_,J_,J_,J_,J_,J_,J_,J_,J_,J_,J_,J_,J_,J_,J_,J_,J_,J_,J_,J_,J_,J_,J_,J_,J_,J_,J_,N_,N_,N_] HT_.out ?_
       refine pU 31 44 #[J_,J_,J_,J_,J_,J_,J_,J_,J_,J_,J_,J_,J_,J_,J_,J_,J_,J_,J_,J_,J_,J_,J_,J_,J_,J_,J_,J_,J_,J_,J_,J_,N_,N_] HT_.out ?_
       refine pU 32 45 #[J_,J_,J_,J_,J_,J_,J_,J_,J_,J_,J_,J_,J_,J_,J_,J_,J_,J_,J_,J_,J_,J_,J_,J_,J_,J_,J_,J_,J_,J_,J_,J_,J_,N_] HT_.out ?_
       refine pY 33 46 #[J_,J_,J_,J_,J_,J_,J_,J_,J_,J_,J_,J_,J_,J_,J_,J_,J_,J_,J_,J_,J_,J_,J_,J_,J_,J_,J_,J_,J_,J_,J_,J_,J_,J_] HT_.out ?_
       refine done_ (done_of HT_.out (by kernel_rfl)) ?_
       try go_wp2
       go_ret
       exact ⟨by first | rfl | (simp [errW_none, errW_some] <;> rfl) | (simp [*, errW_none, errW_some] <;> rfl), bl⟩
     ·rw [if_neg c4] at H
      exact absurd H (by simp)
    ·rw [if_neg c3] at H
     have c3b0 : decide (x3_1 < (l0.length : Int)) = false := decide_eq_false c3
     clear c3
     obtain rfl := Option.some.inj H
     go_wp2
     go_ret
     exact ⟨by first | rfl | (simp [errW_none, errW_some] <;> rfl) | (simp [*, errW_none, errW_some] <;> rfl), bl⟩

end Go.Proofs.Ytbkhgldinmabiaa.X
