-- Laid by xprint.py, a program of this session's, out of the translation.
import Derived.Test.YtielpefbgdilaaaX0
namespace Go.Proofs.Ytielpefbgdilaaa.X
open Go.RowKit Go.Proofs.YtielpefbgdilaaaW.PrintWords Go.Proofs.YtielpefbgdilaaaW.PrintLast Go.Proofs.YtielpefbgdilaaaW.PrintMore
attribute [local go_sem] max2_int min2_int max_two min_two max_three min_three max_four min_four x_isSome x_str_gtr x_str_leq x_str_geq   -- for this text's walks alone
set_option linter.unusedVariables false
set_option linter.unusedSimpArgs false

/-! ### archivistref01_one_b: function 42 -/
def archivistref01_one_b.j0 : Nat → Int → ByteArray → Bool → Option (ByteArray)
 | 0, _, _, _ => none
 | k + 1, x0, x3, x4 => if x4 = true then ((some (([x0] : List Int) : List Int)).bind fun y256 => (if 1 + (strOfNums y256).size ≤ 9223372036854775807 then (some ((⟨#[92]⟩ : ByteArray) ++ (strOfNums y256))) else (none))) else (if x0 = 10 then (some (⟨#[92, 110]⟩ : ByteArray)) else (if x0 = 9 then (some (⟨#[92, 116]⟩ : ByteArray)) else (if x0 < 32 then (if 0 ≤ (x0 / 16) then (if (x0 / 16) < (x3.size : Int) then (if 0 ≤ (x0 % 16) then (if (x0 % 16) < (x3.size : Int) then ((some (([bt x3 (x0 / 16), bt x3 (x0 % 16)] : List Int) : List Int)).bind fun y259 => (if 2 + (strOfNums y259).size ≤ 9223372036854775807 then (some ((⟨#[92, 120]⟩ : ByteArray) ++ (strOfNums y259))) else (none))) else (none)) else (none)) else (none)) else (none)) else (if x0 > 126 then (if 0 ≤ (x0 / 16) then (if (x0 / 16) < (x3.size : Int) then (if 0 ≤ (x0 % 16) then (if (x0 % 16) < (x3.size : Int) then ((some (([bt x3 (x0 / 16), bt x3 (x0 % 16)] : List Int) : List Int)).bind fun y262 => (if 2 + (strOfNums y262).size ≤ 9223372036854775807 then (some ((⟨#[92, 120]⟩ : ByteArray) ++ (strOfNums y262))) else (none))) else (none)) else (none)) else (none)) else (none)) else (some (strOfNums (([x0] : List Int))))))))
def archivistref01_one_b.f (k : Nat) (a0 : Int) : Option (ByteArray) := if a0 = 34 then (archivistref01_one_b.j0 k a0 (⟨#[48, 49, 50, 51, 52, 53, 54, 55, 56, 57, 97, 98, 99, 100, 101, 102]⟩ : ByteArray) true) else (archivistref01_one_b.j0 k a0 (⟨#[48, 49, 50, 51, 52, 53, 54, 55, 56, 57, 97, 98, 99, 100, 101, 102]⟩ : ByteArray) (a0 == 92))
theorem archivistref01_one_b.mono_l : ∀ k, (∀ y0 y1 y2, LeO (archivistref01_one_b.j0 k y0 y1 y2) (archivistref01_one_b.j0 (k + 1) y0 y1 y2))
 | 0 => fun _ _ _ r h => by simp [archivistref01_one_b.j0] at h
 | k + 1 => by
  have ih0 := archivistref01_one_b.mono_l k
  ·intro y0 y1 y2
   unfold archivistref01_one_b.j0
   repeat' first
   | (with_reducible exact ih0 _ _ _)
   | (with_reducible exact LeO.refl _)
   | (with_reducible exact LeO.none _)
   | (with_reducible refine LeO.ite ?_ ?_)
   | (with_reducible refine LeO.bind ?_ (fun _ => ?_))
   | exact ih0 _ _ _
   | exact LeO.none _
   | refine LeO.ite ?_ ?_
   | refine LeO.bind ?_ (fun _ => ?_)
theorem archivistref01_one_b.mono : ∀ a0 k, LeO (archivistref01_one_b.f k a0) (archivistref01_one_b.f (k + 1) a0) := by
 intro a0 k
 have ih0 := archivistref01_one_b.mono_l k
 unfold archivistref01_one_b.f
 repeat' first
   | (with_reducible exact ih0 _ _ _)
   | (with_reducible exact LeO.refl _)
   | (with_reducible exact LeO.none _)
   | (with_reducible refine LeO.ite ?_ ?_)
   | (with_reducible refine LeO.bind ?_ (fun _ => ?_))
   | exact ih0 _ _ _
   | exact LeO.none _
   | refine LeO.ite ?_ ?_
   | refine LeO.bind ?_ (fun _ => ?_)
def archivistref01_one_b.T9 : Bool × List (List Nat × List Nat) := (true, [([], []), ([], []), ([1], [1]), ([0, 2], [0, 2]), ([], []), ([], []), ([5], [5]), ([4, 6], [4, 6]), ([3, 7], [3, 7]), ([8], [8]), ([9], [9]), ([10, 0, 1, 2, 3, 4, 5, 6, 7, 8, 9, 10], [10])])
def archivistref01_one_b.B9 : List Nat := [0, 0, 2, 7, 0, 0, 32, 112, 255, 511, 1023, 2047]
theorem archivistref01_one_b.tab9 : rtab .any (opsOf Try.f42 9) = archivistref01_one_b.T9 := by kernel_rfl
theorem archivistref01_one_b.bits9 : waitsOk archivistref01_one_b.T9.2 archivistref01_one_b.B9 = true := by kernel_rfl
set_option maxHeartbeats 8000000 in
set_option maxRecDepth 100000 in
theorem archivistref01_one_b.calls (k : Nat) (a0 : Int) (r : ByteArray) (w : World) (hlo0 : 0 ≤ a0) (hhi0 : a0 ≤ 255) (h : archivistref01_one_b.f k a0 = some r) :
  Calls Try.prog 42 #[.int .u8 a0] w fun e w' => e = .returned (.string r) ∧ Below w.heap.size w w' := by
 have HB := Aside0.mk (Below.refl w.heap.size w)
 have H : (if a0 = 34 then (archivistref01_one_b.j0 k a0 (⟨#[48, 49, 50, 51, 52, 53, 54, 55, 56, 57, 97, 98, 99, 100, 101, 102]⟩ : ByteArray) true) else (archivistref01_one_b.j0 k a0 (⟨#[48, 49, 50, 51, 52, 53, 54, 55, 56, 57, 97, 98, 99, 100, 101, 102]⟩ : ByteArray) (a0 == 92))) = some r := h
 clear h
 have HC2 := Aside0.mk H
 clear H
 go_enter Try.func42, Try.ntmps42
 go_upto_region 2 with (fail)
 go_cut [4] (fun v4 wc => ∃ (kq : Nat) (x4_1 : Bool), v4 = .bool x4_1 ∧ Aside0 (archivistref01_one_b.j0 kq a0 (⟨#[48, 49, 50, 51, 52, 53, 54, 55, 56, 57, 97, 98, 99, 100, 101, 102]⟩ : ByteArray) x4_1 = some r) ∧ Aside0 (kq ≤ k) ∧ Aside0 (Below w.heap.size w wc))
 case first =>
  have H := HC2.out
  clear HC2
  by_cases c3 : a0 = 34
  ·rw [if_pos c3] at H
   have c3b0 : (a0 == 34) = true := beq_iff_eq.mpr c3
   have c3b1 : (a0 != 34) = false := bne_eq_false_iff_eq.mpr c3
   clear c3
   (first | rw [c3b0] | (simp only [i64_w, i32_w]; rw [c3b0]) | skip)
   have H' := Aside0.mk H
   clear H
   go_wp2
   go_meet
   case rel => exact ⟨_, (true), rs, H', ⟨by first | omega | exact Nat.le_refl _⟩, ⟨bl⟩⟩
  ·rw [if_neg c3] at H
   have c3b0 : (a0 == 34) = false := beq_eq_false_iff_ne.mpr c3
   have c3b1 : (a0 != 34) = true := bne_iff_ne.mpr c3
   (first | rw [c3b0] | (simp only [i64_w, i32_w]; rw [c3b0]) | skip)
   have H' := Aside0.mk H
   clear H
   go_wp2
   go_meet
   case rel => exact ⟨_, ((a0 == 92)), rs, H', ⟨by first | omega | exact Nat.le_refl _⟩, ⟨bl⟩⟩
 case rest =>
  clear HC2
  try clear p2
  try clear c3
  try clear c3b0
  try clear c3b1
  obtain ⟨kq, x4_1, rfl, HA, HJ1, HB⟩ := hcut
  cases kq with
  | zero => exact absurd HA.out (by simp [archivistref01_one_b.j0])
  | succ kj1 =>
   have H := HA.out
   clear HA
   simp only [archivistref01_one_b.j0] at H
   by_cases c4 : x4_1 = true
   ·subst c4
    have H1 : ((some (([a0] : List Int) : List Int)).bind fun y256 => (if 1 + (strOfNums y256).size ≤ 9223372036854775807 then (some ((⟨#[92]⟩ : ByteArray) ++ (strOfNums y256))) else (none))) = some r := by rw [if_pos rfl] at H; exact H
    clear H
    have H := H1
    clear H1
    obtain ⟨y256, hy256⟩ : ∃ y_ : List Int, y_ = (([a0] : List Int)) := ⟨_, rfl⟩
    replace H : (if 1 + (strOfNums y256).size ≤ 9223372036854775807 then (some ((⟨#[92]⟩ : ByteArray) ++ (strOfNums y256))) else (none)) = some r := by first | (rw [hy256]; with_reducible exact H) | (have H2_ := (Option.bind_some _ _).symm.trans H; rw [hy256]; with_reducible exact H2_) | (have H2_ := (Option.bind_some _ _).symm.trans H; with_reducible exact H2_) | with_reducible exact H | (rw [hy256]; exact H) | exact H
    have Ny256 := Aside0.mk hy256
    clear hy256
    by_cases c5 : 1 + (strOfNums y256).size ≤ 9223372036854775807
    ·rw [if_pos c5] at H
     have c5b0 := eq_true c5
     have c5b1 : decide (1 + (strOfNums y256).size ≤ 9223372036854775807) = true := decide_eq_true c5
     try have c5b2 : (9223372036854775807 < 1 + (strOfNums y256).size) = False := eq_false (Nat.not_lt.2 c5)
     obtain rfl := Option.some.inj H
     go_wp2_with (first | ((with_reducible refine gate_dst (N := 12) rfl ?_); refine Kd.R_lit (Kd.int .u8) _ 5 ?hg (N := 12) ?hd (xs := ([a0] : List Int)) (inner := [.int .u8 a0]) (ok := fun _ => True) (okp := fun _ => True) ?hr ?hp (fun _ hk => hk) trivial (Below.refl _ _) (Nat.le_refl _) (by simp) ?_; (case hd => rfl); (case hg => rfl); (case hr => first | (go_simp; done) | (go_simp; rfl)); (case hp => exact (Reps.one (show Kd.M (Kd.int .u8) _ _ _ a0 [.int .u8 a0] from rfl) (Reps.none _ _))); intro v257 w6 ho7 hb hg_ hnew_; clear hg_ hnew_; (first | rw [← Ny256.out] at ho7 | (simp only [Int.reduceToNat] at ho7; rw [← Ny256.out] at ho7)); have n0_ := Aside0.mk (Kd.R_lower ho7 (below_size bl)); have n1_ := Aside0.mk (below_step bl hb); clear HB; have HO258 := n0_; have HB := n1_; clear n0_ n1_; clear hb ho7; have hcv8 := own_string (P := Try.prog) Try.underlying22 Try.underlying5 Try.underlying9 (Kd.own_of_R HO258.out)))
     go_ret
     exact ⟨by first | rfl | (simp [errW_none, errW_some] <;> rfl) | (simp [*, errW_none, errW_some] <;> rfl), bl⟩
    ·rw [if_neg c5] at H
     exact absurd H (by simp)
   ·replace c4 := Bool.eq_false_iff.mpr c4
    subst c4
    have H1 : (if a0 = 10 then (some (⟨#[92, 110]⟩ : ByteArray)) else (if a0 = 9 then (some (⟨#[92, 116]⟩ : ByteArray)) else (if a0 < 32 then (if 0 ≤ (a0 / 16) then (if (a0 / 16) < ((⟨#[48, 49, 50, 51, 52, 53, 54, 55, 56, 57, 97, 98, 99, 100, 101, 102]⟩ : ByteArray).size : Int) then (if 0 ≤ (a0 % 16) then (if (a0 % 16) < ((⟨#[48, 49, 50, 51, 52, 53, 54, 55, 56, 57, 97, 98, 99, 100, 101, 102]⟩ : ByteArray).size : Int) then ((some (([bt (⟨#[48, 49, 50, 51, 52, 53, 54, 55, 56, 57, 97, 98, 99, 100, 101, 102]⟩ : ByteArray) (a0 / 16), bt (⟨#[48, 49, 50, 51, 52, 53, 54, 55, 56, 57, 97, 98, 99, 100, 101, 102]⟩ : ByteArray) (a0 % 16)] : List Int) : List Int)).bind fun y259 => (if 2 + (strOfNums y259).size ≤ 9223372036854775807 then (some ((⟨#[92, 120]⟩ : ByteArray) ++ (strOfNums y259))) else (none))) else (none)) else (none)) else (none)) else (none)) else (if a0 > 126 then (if 0 ≤ (a0 / 16) then (if (a0 / 16) < ((⟨#[48, 49, 50, 51, 52, 53, 54, 55, 56, 57, 97, 98, 99, 100, 101, 102]⟩ : ByteArray).size : Int) then (if 0 ≤ (a0 % 16) then (if (a0 % 16) < ((⟨#[48, 49, 50, 51, 52, 53, 54, 55, 56, 57, 97, 98, 99, 100, 101, 102]⟩ : ByteArray).size : Int) then ((some (([bt (⟨#[48, 49, 50, 51, 52, 53, 54, 55, 56, 57, 97, 98, 99, 100, 101, 102]⟩ : ByteArray) (a0 / 16), bt (⟨#[48, 49, 50, 51, 52, 53, 54, 55, 56, 57, 97, 98, 99, 100, 101, 102]⟩ : ByteArray) (a0 % 16)] : List Int) : List Int)).bind fun y262 => (if 2 + (strOfNums y262).size ≤ 9223372036854775807 then (some ((⟨#[92, 120]⟩ : ByteArray) ++ (strOfNums y262))) else (none))) else (none)) else (none)) else (none)) else (none)) else (some (strOfNums (([a0] : List Int)))))))) = some r := by rw [if_neg (show ¬ (false = true) by decide)] at H; exact H
    clear H
    have H := H1
    clear H1
    by_cases c9 : a0 = 10
    ·rw [if_pos c9] at H
     have c9b0 : (a0 == 10) = true := beq_iff_eq.mpr c9
     have c9b1 : (a0 != 10) = false := bne_eq_false_iff_eq.mpr c9
     clear c9
     obtain rfl := Option.some.inj H
     go_wp2
     go_ret
     exact ⟨by first | rfl | (simp [errW_none, errW_some] <;> rfl) | (simp [*, errW_none, errW_some] <;> rfl), bl⟩
    ·rw [if_neg c9] at H
     have c9b0 : (a0 == 10) = false := beq_eq_false_iff_ne.mpr c9
     have c9b1 : (a0 != 10) = true := bne_iff_ne.mpr c9
     by_cases c10 : a0 = 9
     ·rw [if_pos c10] at H
      have c10b0 : (a0 == 9) = true := beq_iff_eq.mpr c10
      have c10b1 : (a0 != 9) = false := bne_eq_false_iff_eq.mpr c10
      clear c10
      obtain rfl := Option.some.inj H
      go_wp2
      go_ret
      exact ⟨by first | rfl | (simp [errW_none, errW_some] <;> rfl) | (simp [*, errW_none, errW_some] <;> rfl), bl⟩
     ·rw [if_neg c10] at H
      have c10b0 : (a0 == 9) = false := beq_eq_false_iff_ne.mpr c10
      have c10b1 : (a0 != 9) = true := bne_iff_ne.mpr c10
      by_cases c11 : a0 < 32
      ·rw [if_pos c11] at H
       have c11b0 := decide_eq_true c11
       clear c11
       obtain ⟨ji12, hji12⟩ : ∃ j_ : Int, (a0 / 16) = j_ := ⟨_, rfl⟩
       have hw_hji12 : IntKind.u8.wrap (a0.tdiv 16) = ji12 := by rw [← hji12]; exact Go.IntWalk.u8_quo _ _ (by omega)
       replace H : (if 0 ≤ (ji12) then (if (ji12) < ((⟨#[48, 49, 50, 51, 52, 53, 54, 55, 56, 57, 97, 98, 99, 100, 101, 102]⟩ : ByteArray).size : Int) then (if 0 ≤ (a0 % 16) then (if (a0 % 16) < ((⟨#[48, 49, 50, 51, 52, 53, 54, 55, 56, 57, 97, 98, 99, 100, 101, 102]⟩ : ByteArray).size : Int) then ((some (([bt (⟨#[48, 49, 50, 51, 52, 53, 54, 55, 56, 57, 97, 98, 99, 100, 101, 102]⟩ : ByteArray) (ji12), bt (⟨#[48, 49, 50, 51, 52, 53, 54, 55, 56, 57, 97, 98, 99, 100, 101, 102]⟩ : ByteArray) (a0 % 16)] : List Int) : List Int)).bind fun y259 => (if 2 + (strOfNums y259).size ≤ 9223372036854775807 then (some ((⟨#[92, 120]⟩ : ByteArray) ++ (strOfNums y259))) else (none))) else (none)) else (none)) else (none)) else (none)) = some r := by first | (rw [hji12] at H; exact H) | (simp only [hji12] at H ⊢; exact H)
       by_cases c13 : 0 ≤ (ji12)
       ·rw [if_pos c13] at H
        have c13b0 := decide_eq_true c13
        clear c13
        by_cases c14 : (ji12) < ((⟨#[48, 49, 50, 51, 52, 53, 54, 55, 56, 57, 97, 98, 99, 100, 101, 102]⟩ : ByteArray).size : Int)
        ·rw [if_pos c14] at H
         have c14b0 := decide_eq_true c14
         clear c14
         obtain ⟨ji16, hji16⟩ : ∃ j_ : Int, (a0 % 16) = j_ := ⟨_, rfl⟩
         have hw_hji16 : a0.tmod 16 = ji16 := by rw [← hji16]; exact Int.tmod_eq_emod_of_nonneg (by omega)
         replace H : (if 0 ≤ (ji16) then (if (ji16) < ((⟨#[48, 49, 50, 51, 52, 53, 54, 55, 56, 57, 97, 98, 99, 100, 101, 102]⟩ : ByteArray).size : Int) then ((some (([bt (⟨#[48, 49, 50, 51, 52, 53, 54, 55, 56, 57, 97, 98, 99, 100, 101, 102]⟩ : ByteArray) (ji12), bt (⟨#[48, 49, 50, 51, 52, 53, 54, 55, 56, 57, 97, 98, 99, 100, 101, 102]⟩ : ByteArray) (ji16)] : List Int) : List Int)).bind fun y259 => (if 2 + (strOfNums y259).size ≤ 9223372036854775807 then (some ((⟨#[92, 120]⟩ : ByteArray) ++ (strOfNums y259))) else (none))) else (none)) else (none)) = some r := by first | (rw [hji16] at H; exact H) | (simp only [hji16] at H ⊢; exact H)
         by_cases c17 : 0 ≤ (ji16)
         ·rw [if_pos c17] at H
          have c17b0 := decide_eq_true c17
          clear c17
          by_cases c18 : (ji16) < ((⟨#[48, 49, 50, 51, 52, 53, 54, 55, 56, 57, 97, 98, 99, 100, 101, 102]⟩ : ByteArray).size : Int)
          ·rw [if_pos c18] at H
           have c18b0 := decide_eq_true c18
           clear c18
           obtain ⟨y259, hy259⟩ : ∃ y_ : List Int, y_ = (([bt (⟨#[48, 49, 50, 51, 52, 53, 54, 55, 56, 57, 97, 98, 99, 100, 101, 102]⟩ : ByteArray) (ji12), bt (⟨#[48, 49, 50, 51, 52, 53, 54, 55, 56, 57, 97, 98, 99, 100, 101, 102]⟩ : ByteArray) (ji16)] : List Int)) := ⟨_, rfl⟩
           replace H : (if 2 + (strOfNums y259).size ≤ 9223372036854775807 then (some ((⟨#[92, 120]⟩ : ByteArray) ++ (strOfNums y259))) else (none)) = some r := by first | (rw [hy259]; with_reducible exact H) | (have H2_ := (Option.bind_some _ _).symm.trans H; rw [hy259]; with_reducible exact H2_) | (have H2_ := (Option.bind_some _ _).symm.trans H; with_reducible exact H2_) | with_reducible exact H | (rw [hy259]; exact H) | exact H
           have Ny259 := Aside0.mk hy259
           clear hy259
           by_cases c20 : 2 + (strOfNums y259).size ≤ 9223372036854775807
           ·rw [if_pos c20] at H
            have c20b0 := eq_true c20
            have c20b1 : decide (2 + (strOfNums y259).size ≤ 9223372036854775807) = true := decide_eq_true c20
            try have c20b2 : (9223372036854775807 < 2 + (strOfNums y259).size) = False := eq_false (Nat.not_lt.2 c20)
            obtain rfl := Option.some.inj H
            try go_wp2
            have n0_ := Aside0.mk (below_drew1 HB.out)
            clear HB
            have HB := n0_
            clear n0_
            have p15 : 0 ≤ ((ji12) : Int) := od
            have q15 : (ji12) < (16 : Int) := od
            have hx15 := bt_at (⟨#[48, 49, 50, 51, 52, 53, 54, 55, 56, 57, 97, 98, 99, 100, 101, 102]⟩ : ByteArray) (ji12)
            replace p15 := eq_true p15
            replace q15 := eq_true q15
            have p19 : 0 ≤ ((ji16) : Int) := od
            have q19 : (ji16) < (16 : Int) := od
            have hx19 := bt_at (⟨#[48, 49, 50, 51, 52, 53, 54, 55, 56, 57, 97, 98, 99, 100, 101, 102]⟩ : ByteArray) (ji16)
            replace p19 := eq_true p19
            replace q19 := eq_true q19
            refine start_ (n := 12) (S := fun w' => True) (ds := []) #[N_,N_,N_,N_,N_,N_,N_,N_,N_,N_,N_,N_] (by kernel_rfl) rfl rfl trivial (fun hHeld => ?_); refine with_tabW archivistref01_one_b.tab9 archivistref01_one_b.bits9 (fun HT_ HW_ => ?_)
            generalize wc.drew = w21 at HB hHeld ⊢
            refine pY 0 28 #[J_,N_,N_,N_,N_,N_,N_,N_,N_,N_,N_,N_] HT_.out ?_
            refine pY 1 29 #[J_,J_,N_,N_,N_,N_,N_,N_,N_,N_,N_,N_] HT_.out ?_
            refine pY 2 30 #[J_,J_,J_,N_,N_,N_,N_,N_,N_,N_,N_,N_] HT_.out ?_
            refine pY 4 32 #[J_,J_,J_,N_,J_,N_,N_,N_,N_,N_,N_,N_] HT_.out ?_
            refine pY 5 33 #[J_,J_,J_,N_,J_,J_,N_,N_,N_,N_,N_,N_] HT_.out ?_
            refine pY 6 34 #[J_,J_,J_,N_,J_,J_,J_,N_,N_,N_,N_,N_] HT_.out ?_
            refine take_ (i := 3) (N := some 31) (v := ?_) (a' := ?_) #[J_,J_,J_,J_,J_,J_,J_,N_,N_,N_,N_,N_] rfl rfl (take_ofW HT_.out HW_.out (by kernel_rfl)) (fun _ _ _ h => h) (Or.inl ⟨by rfl, ?_⟩) hHeld ?_ ?_
            rotate_left
            ·intro w' _
             go_simp
             with_reducible rfl
            rotate_left
            ·simp only [Act.put, List.setIfInBounds_toArray, List.set_cons_zero, List.set_cons_succ, i64_w, i32_w]
             rfl
            refine take_ (i := 7) (N := some 35) (v := ?_) (a' := ?_) #[J_,J_,J_,J_,J_,J_,J_,J_,N_,N_,N_,N_] rfl rfl (take_ofW HT_.out HW_.out (by kernel_rfl)) (fun _ _ _ h => h) (Or.inl ⟨by rfl, ?_⟩) hHeld ?_ ?_
            rotate_left
            ·intro w' _
             go_simp
             with_reducible rfl
            rotate_left
            ·simp only [Act.put, List.setIfInBounds_toArray, List.set_cons_zero, List.set_cons_succ, i64_w, i32_w]
             rfl
            refine one_ (i := 8) (N := some 36) #[J_,J_,J_,J_,J_,J_,J_,J_,J_,N_,N_,N_] rfl rfl (one_of HT_.out (by kernel_rfl)) (by decide) (fun K hK => ?_)
            refine Kd.R_lit_step (Kd.int .u8) _ 5 ?hg (N := 36) ?hd (xs := ([bt (⟨#[48, 49, 50, 51, 52, 53, 54, 55, 56, 57, 97, 98, 99, 100, 101, 102]⟩ : ByteArray) (ji12), bt (⟨#[48, 49, 50, 51, 52, 53, 54, 55, 56, 57, 97, 98, 99, 100, 101, 102]⟩ : ByteArray) (ji16)] : List Int)) (inner := [.int .u8 (bt (⟨#[48, 49, 50, 51, 52, 53, 54, 55, 56, 57, 97, 98, 99, 100, 101, 102]⟩ : ByteArray) (ji12)), .int .u8 (bt (⟨#[48, 49, 50, 51, 52, 53, 54, 55, 56, 57, 97, 98, 99, 100, 101, 102]⟩ : ByteArray) (ji16))]) (ok := fun _ => True) (okp := fun _ => True) ?hr ?hp (fun _ hk => hk) trivial (Below.refl _ _) (Nat.le_refl _) (by simp) ?_; (case hd => rfl); (case hg => rfl); (case hr => first | (go_simp; done) | (go_simp; rfl)); (case hp => exact (Reps.one (show Kd.M (Kd.int .u8) _ _ _ (bt (⟨#[48, 49, 50, 51, 52, 53, 54, 55, 56, 57, 97, 98, 99, 100, 101, 102]⟩ : ByteArray) (ji12)) [.int .u8 (bt (⟨#[48, 49, 50, 51, 52, 53, 54, 55, 56, 57, 97, 98, 99, 100, 101, 102]⟩ : ByteArray) (ji12))] from rfl) (Reps.one (show Kd.M (Kd.int .u8) _ _ _ (bt (⟨#[48, 49, 50, 51, 52, 53, 54, 55, 56, 57, 97, 98, 99, 100, 101, 102]⟩ : ByteArray) (ji16)) [.int .u8 (bt (⟨#[48, 49, 50, 51, 52, 53, 54, 55, 56, 57, 97, 98, 99, 100, 101, 102]⟩ : ByteArray) (ji16))] from rfl) (Reps.none _ _))))
            intro v260 w22 ho23 hb hg_ hnew_
            clear hg_ hnew_
            (first | rw [← Ny259.out] at ho23 | (simp only [Int.reduceToNat] at ho23; rw [← Ny259.out] at ho23))
            have n0_ := Aside0.mk (Kd.R_lower ho23 (below_size bl))
            have n1_ := Aside0.mk (below_step bl hb)
            clear HB
            have HO261 := n0_
            have HB := n1_
            clear n0_ n1_
            clear hb ho23
            refine hK.out _ _ trivial (fun hHeld => ?_)
            clear hK K
            refine norm_ (a' := ?_) ?_ ?_
            rotate_left
            ·show Act.put _ (some 36) _ = _
             simp only [Act.put, List.setIfInBounds_toArray, List.set_cons_zero, List.set_cons_succ, i64_w, i32_w]
             rfl
            refine one_ (i := 9) (N := some 37) #[J_,J_,J_,J_,J_,J_,J_,J_,J_,J_,N_,N_] rfl rfl (one_of HT_.out (by kernel_rfl)) (by decide) (fun K hK => ?_)
            have hcv24 := own_string (P := Try.prog) Try.underlying22 Try.underlying5 Try.underlying9 (Kd.own_of_R HO261.out)
            refine value_ (w1 := ?_) (v := ?_) (by rfl) rfl ?_ ?_
            rotate_left 2
            ·go_simp
             constructor
             ·rfl
             ·rfl
            clear hcv24
            refine hK.out _ _ trivial (fun hHeld => ?_)
            clear hK K
            refine norm_ (a' := ?_) ?_ ?_
            rotate_left
            ·show Act.put _ (some 37) _ = _
             simp only [Act.put, List.setIfInBounds_toArray, List.set_cons_zero, List.set_cons_succ, i64_w, i32_w]
             rfl
            refine pY 10 38 #[J_,J_,J_,J_,J_,J_,J_,J_,J_,J_,J_,N_] HT_.out ?_
            refine pY 11 2 #[J_,J_,J_,J_,J_,J_,J_,J_,J_,J_,J_,J_] HT_.out ?_
            refine done_ (done_of HT_.out (by kernel_rfl)) ?_
            try go_wp2
            go_ret
            exact ⟨by first | rfl | (simp [errW_none, errW_some] <;> rfl) | (simp only [← hji12, ← hji16]; first | rfl | (simp [errW_none, errW_some] <;> rfl)) | (simp [*, errW_none, errW_some] <;> rfl), bl⟩
           ·rw [if_neg c20] at H
            exact absurd H (by simp)
          ·rw [if_neg c18] at H
           exact absurd H (by simp)
         ·rw [if_neg c17] at H
          exact absurd H (by simp)
        ·rw [if_neg c14] at H
         exact absurd H (by simp)
       ·rw [if_neg c13] at H
        exact absurd H (by simp)
      ·rw [if_neg c11] at H
       have c11b0 : decide (a0 < 32) = false := decide_eq_false c11
       clear c11
       by_cases c25 : a0 > 126
       ·rw [if_pos c25] at H
        have c25b0 := decide_eq_true c25
        clear c25
        obtain ⟨ji26, hji26⟩ : ∃ j_ : Int, (a0 / 16) = j_ := ⟨_, rfl⟩
        have hw_hji26 : IntKind.u8.wrap (a0.tdiv 16) = ji26 := by rw [← hji26]; exact Go.IntWalk.u8_quo _ _ (by omega)
        replace H : (if 0 ≤ (ji26) then (if (ji26) < ((⟨#[48, 49, 50, 51, 52, 53, 54, 55, 56, 57, 97, 98, 99, 100, 101, 102]⟩ : ByteArray).size : Int) then (if 0 ≤ (a0 % 16) then (if (a0 % 16) < ((⟨#[48, 49, 50, 51, 52, 53, 54, 55, 56, 57, 97, 98, 99, 100, 101, 102]⟩ : ByteArray).size : Int) then ((some (([bt (⟨#[48, 49, 50, 51, 52, 53, 54, 55, 56, 57, 97, 98, 99, 100, 101, 102]⟩ : ByteArray) (ji26), bt (⟨#[48, 49, 50, 51, 52, 53, 54, 55, 56, 57, 97, 98, 99, 100, 101, 102]⟩ : ByteArray) (a0 % 16)] : List Int) : List Int)).bind fun y262 => (if 2 + (strOfNums y262).size ≤ 9223372036854775807 then (some ((⟨#[92, 120]⟩ : ByteArray) ++ (strOfNums y262))) else (none))) else (none)) else (none)) else (none)) else (none)) = some r := by first | (rw [hji26] at H; exact H) | (simp only [hji26] at H ⊢; exact H)
        by_cases c27 : 0 ≤ (ji26)
        ·rw [if_pos c27] at H
         have c27b0 := decide_eq_true c27
         clear c27
         by_cases c28 : (ji26) < ((⟨#[48, 49, 50, 51, 52, 53, 54, 55, 56, 57, 97, 98, 99, 100, 101, 102]⟩ : ByteArray).size : Int)
         ·rw [if_pos c28] at H
          have c28b0 := decide_eq_true c28
          clear c28
          obtain ⟨ji30, hji30⟩ : ∃ j_ : Int, (a0 % 16) = j_ := ⟨_, rfl⟩
          have hw_hji30 : a0.tmod 16 = ji30 := by rw [← hji30]; exact Int.tmod_eq_emod_of_nonneg (by omega)
          replace H : (if 0 ≤ (ji30) then (if (ji30) < ((⟨#[48, 49, 50, 51, 52, 53, 54, 55, 56, 57, 97, 98, 99, 100, 101, 102]⟩ : ByteArray).size : Int) then ((some (([bt (⟨#[48, 49, 50, 51, 52, 53, 54, 55, 56, 57, 97, 98, 99, 100, 101, 102]⟩ : ByteArray) (ji26), bt (⟨#[48, 49, 50, 51, 52, 53, 54, 55, 56, 57, 97, 98, 99, 100, 101, 102]⟩ : ByteArray) (ji30)] : List Int) : List Int)).bind fun y262 => (if 2 + (strOfNums y262).size ≤ 9223372036854775807 then (some ((⟨#[92, 120]⟩ : ByteArray) ++ (strOfNums y262))) else (none))) else (none)) else (none)) = some r := by first | (rw [hji30] at H; exact H) | (simp only [hji30] at H ⊢; exact H)
          by_cases c31 : 0 ≤ (ji30)
          ·rw [if_pos c31] at H
           have c31b0 := decide_eq_true c31
           clear c31
           by_cases c32 : (ji30) < ((⟨#[48, 49, 50, 51, 52, 53, 54, 55, 56, 57, 97, 98, 99, 100, 101, 102]⟩ : ByteArray).size : Int)
           ·rw [if_pos c32] at H
            have c32b0 := decide_eq_true c32
            clear c32
            obtain ⟨y262, hy262⟩ : ∃ y_ : List Int, y_ = (([bt (⟨#[48, 49, 50, 51, 52, 53, 54, 55, 56, 57, 97, 98, 99, 100, 101, 102]⟩ : ByteArray) (ji26), bt (⟨#[48, 49, 50, 51, 52, 53, 54, 55, 56, 57, 97, 98, 99, 100, 101, 102]⟩ : ByteArray) (ji30)] : List Int)) := ⟨_, rfl⟩
            replace H : (if 2 + (strOfNums y262).size ≤ 9223372036854775807 then (some ((⟨#[92, 120]⟩ : ByteArray) ++ (strOfNums y262))) else (none)) = some r := by first | (rw [hy262]; with_reducible exact H) | (have H2_ := (Option.bind_some _ _).symm.trans H; rw [hy262]; with_reducible exact H2_) | (have H2_ := (Option.bind_some _ _).symm.trans H; with_reducible exact H2_) | with_reducible exact H | (rw [hy262]; exact H) | exact H
            have Ny262 := Aside0.mk hy262
            clear hy262
            by_cases c34 : 2 + (strOfNums y262).size ≤ 9223372036854775807
            ·rw [if_pos c34] at H
             have c34b0 := eq_true c34
             have c34b1 : decide (2 + (strOfNums y262).size ≤ 9223372036854775807) = true := decide_eq_true c34
             try have c34b2 : (9223372036854775807 < 2 + (strOfNums y262).size) = False := eq_false (Nat.not_lt.2 c34)
             obtain rfl := Option.some.inj H
             try go_wp2
             have n0_ := Aside0.mk (below_drew1 HB.out)
             clear HB
             have HB := n0_
             clear n0_
             have p29 : 0 ≤ ((ji26) : Int) := od
             have q29 : (ji26) < (16 : Int) := od
             have hx29 := bt_at (⟨#[48, 49, 50, 51, 52, 53, 54, 55, 56, 57, 97, 98, 99, 100, 101, 102]⟩ : ByteArray) (ji26)
             replace p29 := eq_true p29
             replace q29 := eq_true q29
             have p33 : 0 ≤ ((ji30) : Int) := od
             have q33 : (ji30) < (16 : Int) := od
             have hx33 := bt_at (⟨#[48, 49, 50, 51, 52, 53, 54, 55, 56, 57, 97, 98, 99, 100, 101, 102]⟩ : ByteArray) (ji30)
             replace p33 := eq_true p33
             replace q33 := eq_true q33
             refine start_ (n := 12) (S := fun w' => True) (ds := []) #[N_,N_,N_,N_,N_,N_,N_,N_,N_,N_,N_,N_] (by kernel_rfl) rfl rfl trivial (fun hHeld => ?_); refine with_tabW archivistref01_one_b.tab9 archivistref01_one_b.bits9 (fun HT_ HW_ => ?_)
             generalize wc.drew = w35 at HB hHeld ⊢
             refine pY 0 28 #[J_,N_,N_,N_,N_,N_,N_,N_,N_,N_,N_,N_] HT_.out ?_
             refine pY 1 29 #[J_,J_,N_,N_,N_,N_,N_,N_,N_,N_,N_,N_] HT_.out ?_
             refine pY 2 30 #[J_,J_,J_,N_,N_,N_,N_,N_,N_,N_,N_,N_] HT_.out ?_
             refine pY 4 32 #[J_,J_,J_,N_,J_,N_,N_,N_,N_,N_,N_,N_] HT_.out ?_
             refine pY 5 33 #[J_,J_,J_,N_,J_,J_,N_,N_,N_,N_,N_,N_] HT_.out ?_
             refine pY 6 34 #[J_,J_,J_,N_,J_,J_,J_,N_,N_,N_,N_,N_] HT_.out ?_
             refine take_ (i := 3) (N := some 31) (v := ?_) (a' := ?_) #[J_,J_,J_,J_,J_,J_,J_,N_,N_,N_,N_,N_] rfl rfl (take_ofW HT_.out HW_.out (by kernel_rfl)) (fun _ _ _ h => h) (Or.inl ⟨by rfl, ?_⟩) hHeld ?_ ?_
             rotate_left
             ·intro w' _
              go_simp
              with_reducible rfl
             rotate_left
             ·simp only [Act.put, List.setIfInBounds_toArray, List.set_cons_zero, List.set_cons_succ, i64_w, i32_w]
              rfl
             refine take_ (i := 7) (N := some 35) (v := ?_) (a' := ?_) #[J_,J_,J_,J_,J_,J_,J_,J_,N_,N_,N_,N_] rfl rfl (take_ofW HT_.out HW_.out (by kernel_rfl)) (fun _ _ _ h => h) (Or.inl ⟨by rfl, ?_⟩) hHeld ?_ ?_
             rotate_left
             ·intro w' _
              go_simp
              with_reducible rfl
             rotate_left
             ·simp only [Act.put, List.setIfInBounds_toArray, List.set_cons_zero, List.set_cons_succ, i64_w, i32_w]
              rfl
             refine one_ (i := 8) (N := some 36) #[J_,J_,J_,J_,J_,J_,J_,J_,J_,N_,N_,N_] rfl rfl (one_of HT_.out (by kernel_rfl)) (by decide) (fun K hK => ?_)
             refine Kd.R_lit_step (Kd.int .u8) _ 5 ?hg (N := 36) ?hd (xs := ([bt (⟨#[48, 49, 50, 51, 52, 53, 54, 55, 56, 57, 97, 98, 99, 100, 101, 102]⟩ : ByteArray) (ji26), bt (⟨#[48, 49, 50, 51, 52, 53, 54, 55, 56, 57, 97, 98, 99, 100, 101, 102]⟩ : ByteArray) (ji30)] : List Int)) (inner := [.int .u8 (bt (⟨#[48, 49, 50, 51, 52, 53, 54, 55, 56, 57, 97, 98, 99, 100, 101, 102]⟩ : ByteArray) (ji26)), .int .u8 (bt (⟨#[48, 49, 50, 51, 52, 53, 54, 55, 56, 57, 97, 98, 99, 100, 101, 102]⟩ : ByteArray) (ji30))]) (ok := fun _ => True) (okp := fun _ => True) ?hr ?hp (fun _ hk => hk) trivial (Below.refl _ _) (Nat.le_refl _) (by simp) ?_; (case hd => rfl); (case hg => rfl); (case hr => first | (go_simp; done) | (go_simp; rfl)); (case hp => exact (Reps.one (show Kd.M (Kd.int .u8) _ _ _ (bt (⟨#[48, 49, 50, 51, 52, 53, 54, 55, 56, 57, 97, 98, 99, 100, 101, 102]⟩ : ByteArray) (ji26)) [.int .u8 (bt (⟨#[48, 49, 50, 51, 52, 53, 54, 55, 56, 57, 97, 98, 99, 100, 101, 102]⟩ : ByteArray) (ji26))] from rfl) (Reps.one (show Kd.M (Kd.int .u8) _ _ _ (bt (⟨#[48, 49, 50, 51, 52, 53, 54, 55, 56, 57, 97, 98, 99, 100, 101, 102]⟩ : ByteArray) (ji30)) [.int .u8 (bt (⟨#[48, 49, 50, 51, 52, 53, 54, 55, 56, 57, 97, 98, 99, 100, 101, 102]⟩ : ByteArray) (ji30))] from rfl) (Reps.none _ _))))
             intro v263 w36 ho37 hb hg_ hnew_
             clear hg_ hnew_
             (first | rw [← Ny262.out] at ho37 | (simp only [Int.reduceToNat] at ho37; rw [← Ny262.out] at ho37))
             have n0_ := Aside0.mk (Kd.R_lower ho37 (below_size bl))
             have n1_ := Aside0.mk (below_step bl hb)
             clear HB
             have HO264 := n0_
             have HB := n1_
             clear n0_ n1_
             clear hb ho37
             refine hK.out _ _ trivial (fun hHeld => ?_)
             clear hK K
             refine norm_ (a' := ?_) ?_ ?_
             rotate_left
             ·show Act.put _ (some 36) _ = _
              simp only [Act.put, List.setIfInBounds_toArray, List.set_cons_zero, List.set_cons_succ, i64_w, i32_w]
              rfl
             refine one_ (i := 9) (N := some 37) #[J_,J_,J_,J_,J_,J_,J_,J_,J_,J_,N_,N_] rfl rfl (one_of HT_.out (by kernel_rfl)) (by decide) (fun K hK => ?_)
             have hcv38 := own_string (P := Try.prog) Try.underlying22 Try.underlying5 Try.underlying9 (Kd.own_of_R HO264.out)
             refine value_ (w1 := ?_) (v := ?_) (by rfl) rfl ?_ ?_
             rotate_left 2
             ·go_simp
              constructor
              ·rfl
              ·rfl
             clear hcv38
             refine hK.out _ _ trivial (fun hHeld => ?_)
             clear hK K
             refine norm_ (a' := ?_) ?_ ?_
             rotate_left
             ·show Act.put _ (some 37) _ = _
              simp only [Act.put, List.setIfInBounds_toArray, List.set_cons_zero, List.set_cons_succ, i64_w, i32_w]
              rfl
             refine pY 10 38 #[J_,J_,J_,J_,J_,J_,J_,J_,J_,J_,J_,N_] HT_.out ?_
             refine pY 11 2 #[J_,J_,J_,J_,J_,J_,J_,J_,J_,J_,J_,J_] HT_.out ?_
             refine done_ (done_of HT_.out (by kernel_rfl)) ?_
             try go_wp2
             go_ret
             exact ⟨by first | rfl | (simp [errW_none, errW_some] <;> rfl) | (simp only [← hji26, ← hji30]; first | rfl | (simp [errW_none, errW_some] <;> rfl)) | (simp [*, errW_none, errW_some] <;> rfl), bl⟩
            ·rw [if_neg c34] at H
             exact absurd H (by simp)
           ·rw [if_neg c32] at H
            exact absurd H (by simp)
          ·rw [if_neg c31] at H
           exact absurd H (by simp)
         ·rw [if_neg c28] at H
          exact absurd H (by simp)
        ·rw [if_neg c27] at H
         exact absurd H (by simp)
       ·rw [if_neg c25] at H
        have c25b0 : decide (126 < a0) = false := decide_eq_false c25
        clear c25
        obtain ⟨y265, hy265⟩ : ∃ y_ : List Int, y_ = (([a0] : List Int)) := ⟨_, rfl⟩
        replace H : (some (strOfNums y265)) = some r := by first | (rw [hy265]; with_reducible exact H) | (have H2_ := (Option.bind_some _ _).symm.trans H; rw [hy265]; with_reducible exact H2_) | (have H2_ := (Option.bind_some _ _).symm.trans H; with_reducible exact H2_) | with_reducible exact H | (rw [hy265]; exact H) | exact H
        have Ny265 := Aside0.mk hy265
        clear hy265
        obtain rfl := Option.some.inj H
        go_wp2_with (first | ((with_reducible refine gate_dst (N := 40) rfl ?_); refine Kd.R_lit (Kd.int .u8) _ 5 ?hg (N := 40) ?hd (xs := ([a0] : List Int)) (inner := [.int .u8 a0]) (ok := fun _ => True) (okp := fun _ => True) ?hr ?hp (fun _ hk => hk) trivial (Below.refl _ _) (Nat.le_refl _) (by simp) ?_; (case hd => rfl); (case hg => rfl); (case hr => first | (go_simp; done) | (go_simp; rfl)); (case hp => exact (Reps.one (show Kd.M (Kd.int .u8) _ _ _ a0 [.int .u8 a0] from rfl) (Reps.none _ _))); intro v266 w39 ho40 hb hg_ hnew_; clear hg_ hnew_; (first | rw [← Ny265.out] at ho40 | (simp only [Int.reduceToNat] at ho40; rw [← Ny265.out] at ho40)); have n0_ := Aside0.mk (Kd.R_lower ho40 (below_size bl)); have n1_ := Aside0.mk (below_step bl hb); clear HB; have HO267 := n0_; have HB := n1_; clear n0_ n1_; clear hb ho40; have hcv41 := own_string (P := Try.prog) Try.underlying22 Try.underlying5 Try.underlying9 (Kd.own_of_R HO267.out)))
        go_ret
        exact ⟨by first | rfl | (simp [errW_none, errW_some] <;> rfl) | (simp [*, errW_none, errW_some] <;> rfl), bl⟩

def archivistref01_one.f (k : Nat) (a0 : Int) : Option (ByteArray) := if 0 ≤ a0 ∧ a0 ≤ 255 then archivistref01_one_b.f k a0 else none
theorem archivistref01_one.mono : ∀ a0 k, LeO (archivistref01_one.f k a0) (archivistref01_one.f (k + 1) a0) := by
 intro a0 k
 unfold archivistref01_one.f
 split
 ·exact archivistref01_one_b.mono a0 k
 ·exact LeO.none _
theorem archivistref01_one.calls (k : Nat) (a0 : Int) (r : ByteArray) (w : World) (h : archivistref01_one.f k a0 = some r) :
  Calls Try.prog 42 #[.int .u8 a0] w fun e w' => e = .returned (.string r) ∧ Below w.heap.size w w' := by
 unfold archivistref01_one.f at h
 split at h
 ·rename_i hb_
  exact archivistref01_one_b.calls k a0 r w hb_.1 hb_.2 h
 ·simp at h

end Go.Proofs.Ytielpefbgdilaaa.X
