-- Laid by xprint.py, a program of this session's, out of the translation.
import Derived.Test.YtielpefbgdilaaaX0
import Derived.Test.YtielpefbgdilaaaX13
import Derived.Test.YtielpefbgdilaaaX15
import Derived.Test.YtielpefbgdilaaaX16
namespace Go.Proofs.Ytielpefbgdilaaa.X
open Go.RowKit Go.Proofs.YtielpefbgdilaaaW.PrintWords Go.Proofs.YtielpefbgdilaaaW.PrintLast Go.Proofs.YtielpefbgdilaaaW.PrintMore
attribute [local go_sem] max2_int min2_int max_two min_two max_three min_three max_four min_four x_isSome x_str_gtr x_str_leq x_str_geq   -- for this text's walks alone
set_option linter.unusedVariables false
set_option linter.unusedSimpArgs false

/-! ### archivistref10_All: function 13 -/
mutual
def archivistref10_All.l0 : Nat → ByteArray → List (S54) → Int → Option ((List (S54)))
 | 0, _, _, _ => none
 | k + 1, x0, x3, x4 => if x4 < (x0.size : Int) then (archivistref10_All.j1 k x0 x3 x4 (decide ((x3.length : Int) < 64))) else (archivistref10_All.j1 k x0 x3 x4 false)
def archivistref10_All.j1 : Nat → ByteArray → List (S54) → Int → Bool → Option ((List (S54)))
 | 0, _, _, _, _ => none
 | k + 1, x0, x3, x4, x18 => if x18 = true then (archivistref10_All.l1 k x0 x3 x4 x4) else (some x3)
def archivistref10_All.j3 : Nat → ByteArray → List (S54) → Int → Int → Option ((List (S54)))
 | 0, _, _, _, _ => none
 | k + 1, x0, x3, x4, x5 => if x4 = x5 then (archivistref10_All.l0 k x0 x3 (wrap64 (x4 + 1))) else (if 0 ≤ x5 then (if x5 ≤ x4 then (if x4 ≤ (x0.size : Int) then (if x4 < (x0.size : Int) then (if 0 ≤ x4 then (archivistref10_All.j4 k x0 x3 x4 ((bt x0 x4) == 61) (x0.extract (x5 : Int).toNat (x4 : Int).toNat) (⟨#[]⟩ : ByteArray)) else (none)) else (archivistref10_All.j4 k x0 x3 x4 false (x0.extract (x5 : Int).toNat (x4 : Int).toNat) (⟨#[]⟩ : ByteArray))) else (none)) else (none)) else (none))
def archivistref10_All.j4 : Nat → ByteArray → List (S54) → Int → Bool → ByteArray → ByteArray → Option ((List (S54)))
 | 0, _, _, _, _, _, _ => none
 | k + 1, x0, x3, x4, x64, x275000, x275001 => if x64 = true then (if 0 ≤ (wrap64 (x4 + 1)) then (if (wrap64 (x4 + 1)) ≤ (x0.size : Int) then ((archivistref01_Get.f k (x0.extract ((wrap64 (x4 + 1)) : Int).toNat x0.size)).bind fun bt275 => (if bt275.2.2 = true then ((archivistref06_Name.f k x275000).bind fun t278 => (if t278 = true then (if (bt275.1.size : Int) ≤ 256 then (if x3.length < 4398046511104 then (archivistref10_All.l0 k x0 (x3 ++ [(⟨x275000, bt275.1⟩ : S54)]) (wrap64 ((wrap64 (x4 + 1)) + bt275.2.1))) else (none)) else (archivistref10_All.l0 k x0 x3 (wrap64 ((wrap64 (x4 + 1)) + bt275.2.1)))) else (archivistref10_All.l0 k x0 x3 (wrap64 ((wrap64 (x4 + 1)) + bt275.2.1))))) else (archivistref10_All.l2 k x0 x3 (wrap64 (x4 + 1)) 0 x275000 x275001))) else (none)) else (none)) else ((archivistref06_Name.f k x275000).bind fun t291 => (if t291 = true then (if (x275001.size : Int) ≤ 256 then (if x3.length < 4398046511104 then (archivistref10_All.l0 k x0 (x3 ++ [(⟨x275000, x275001⟩ : S54)]) x4) else (none)) else (archivistref10_All.l0 k x0 x3 x4)) else (archivistref10_All.l0 k x0 x3 x4)))
def archivistref10_All.l2 : Nat → ByteArray → List (S54) → Int → Int → ByteArray → ByteArray → Option ((List (S54)))
 | 0, _, _, _, _, _, _ => none
 | k + 1, x0, x3, x4, x8, x275000, x275001 => if (wrap64 (x4 + x8)) < (x0.size : Int) then (if 0 ≤ (wrap64 (x4 + x8)) then ((archivistref10_space.f (bt x0 (wrap64 (x4 + x8)))).bind fun t282 => (if t282 = true then (if 0 ≤ x4 then (if x4 ≤ (wrap64 (x4 + x8)) then (if (wrap64 (x4 + x8)) ≤ (x0.size : Int) then ((archivistref06_Name.f k x275000).bind fun t283 => (if t283 = true then (if ((x0.extract (x4 : Int).toNat ((wrap64 (x4 + x8)) : Int).toNat).size : Int) ≤ 256 then (if x3.length < 4398046511104 then (archivistref10_All.l0 k x0 (x3 ++ [(⟨x275000, x0.extract (x4 : Int).toNat ((wrap64 (x4 + x8)) : Int).toNat⟩ : S54)]) (wrap64 (x4 + x8))) else (none)) else (archivistref10_All.l0 k x0 x3 (wrap64 (x4 + x8)))) else (archivistref10_All.l0 k x0 x3 (wrap64 (x4 + x8))))) else (none)) else (none)) else (none)) else (archivistref10_All.l2 k x0 x3 x4 (wrap64 (x8 + 1)) x275000 x275001))) else (none)) else (if 0 ≤ x4 then (if x4 ≤ (wrap64 (x4 + x8)) then (if (wrap64 (x4 + x8)) ≤ (x0.size : Int) then ((archivistref06_Name.f k x275000).bind fun t287 => (if t287 = true then (if ((x0.extract (x4 : Int).toNat ((wrap64 (x4 + x8)) : Int).toNat).size : Int) ≤ 256 then (if x3.length < 4398046511104 then (archivistref10_All.l0 k x0 (x3 ++ [(⟨x275000, x0.extract (x4 : Int).toNat ((wrap64 (x4 + x8)) : Int).toNat⟩ : S54)]) (wrap64 (x4 + x8))) else (none)) else (archivistref10_All.l0 k x0 x3 (wrap64 (x4 + x8)))) else (archivistref10_All.l0 k x0 x3 (wrap64 (x4 + x8))))) else (none)) else (none)) else (none))
def archivistref10_All.l1 : Nat → ByteArray → List (S54) → Int → Int → Option ((List (S54)))
 | 0, _, _, _, _ => none
 | k + 1, x0, x3, x4, x5 => if x4 < (x0.size : Int) then (if 0 ≤ x4 then ((archivistref10_space.f (bt x0 x4)).bind fun t273 => (if t273 = true then (archivistref10_All.j3 k x0 x3 x4 x5) else (if (bt x0 x4) = 61 then (archivistref10_All.j3 k x0 x3 x4 x5) else (if (bt x0 x4) = 34 then (archivistref10_All.j3 k x0 x3 x4 x5) else (archivistref10_All.l1 k x0 x3 (wrap64 (x4 + 1)) x5))))) else (none)) else (archivistref10_All.j3 k x0 x3 x4 x5)
end
def archivistref10_All.f (k : Nat) (a0 : ByteArray) : Option ((List (S54))) := archivistref10_All.l0 k a0 ([] : List (S54)) 0
theorem archivistref10_All.mono_l : ∀ k, (∀ y0 y1 y2, LeO (archivistref10_All.l0 k y0 y1 y2) (archivistref10_All.l0 (k + 1) y0 y1 y2)) ∧ (∀ y0 y1 y2 y3, LeO (archivistref10_All.j1 k y0 y1 y2 y3) (archivistref10_All.j1 (k + 1) y0 y1 y2 y3)) ∧ (∀ y0 y1 y2 y3, LeO (archivistref10_All.j3 k y0 y1 y2 y3) (archivistref10_All.j3 (k + 1) y0 y1 y2 y3)) ∧ (∀ y0 y1 y2 y3 y4 y5, LeO (archivistref10_All.j4 k y0 y1 y2 y3 y4 y5) (archivistref10_All.j4 (k + 1) y0 y1 y2 y3 y4 y5)) ∧ (∀ y0 y1 y2 y3 y4 y5, LeO (archivistref10_All.l2 k y0 y1 y2 y3 y4 y5) (archivistref10_All.l2 (k + 1) y0 y1 y2 y3 y4 y5)) ∧ (∀ y0 y1 y2 y3, LeO (archivistref10_All.l1 k y0 y1 y2 y3) (archivistref10_All.l1 (k + 1) y0 y1 y2 y3))
 | 0 => ⟨fun _ _ _ r h => by simp [archivistref10_All.l0] at h, fun _ _ _ _ r h => by simp [archivistref10_All.j1] at h, fun _ _ _ _ r h => by simp [archivistref10_All.j3] at h, fun _ _ _ _ _ _ r h => by simp [archivistref10_All.j4] at h, fun _ _ _ _ _ _ r h => by simp [archivistref10_All.l2] at h, fun _ _ _ _ r h => by simp [archivistref10_All.l1] at h⟩
 | k + 1 => by
  obtain ⟨ih0, ih1, ih2, ih3, ih4, ih5⟩ := archivistref10_All.mono_l k
  refine ⟨?_, ?_, ?_, ?_, ?_, ?_⟩
  ·intro y0 y1 y2
   unfold archivistref10_All.l0
   repeat' first
   | (with_reducible exact ih0 _ _ _)
   | (with_reducible exact ih1 _ _ _ _)
   | (with_reducible exact ih2 _ _ _ _)
   | (with_reducible exact ih3 _ _ _ _ _ _)
   | (with_reducible exact ih4 _ _ _ _ _ _)
   | (with_reducible exact ih5 _ _ _ _)
   | (with_reducible exact archivistref01_Get.mono _ _)
   | (with_reducible exact archivistref06_Name.mono _ _)
   | (with_reducible exact LeO.refl _)
   | (with_reducible exact LeO.none _)
   | (with_reducible refine LeO.ite ?_ ?_)
   | (with_reducible refine LeO.bind ?_ (fun _ => ?_))
   | exact ih0 _ _ _
   | exact ih1 _ _ _ _
   | exact ih2 _ _ _ _
   | exact ih3 _ _ _ _ _ _
   | exact ih4 _ _ _ _ _ _
   | exact ih5 _ _ _ _
   | exact archivistref01_Get.mono _ _
   | exact archivistref06_Name.mono _ _
   | exact LeO.none _
   | refine LeO.ite ?_ ?_
   | refine LeO.bind ?_ (fun _ => ?_)
  ·intro y0 y1 y2 y3
   unfold archivistref10_All.j1
   repeat' first
   | (with_reducible exact ih0 _ _ _)
   | (with_reducible exact ih1 _ _ _ _)
   | (with_reducible exact ih2 _ _ _ _)
   | (with_reducible exact ih3 _ _ _ _ _ _)
   | (with_reducible exact ih4 _ _ _ _ _ _)
   | (with_reducible exact ih5 _ _ _ _)
   | (with_reducible exact archivistref01_Get.mono _ _)
   | (with_reducible exact archivistref06_Name.mono _ _)
   | (with_reducible exact LeO.refl _)
   | (with_reducible exact LeO.none _)
   | (with_reducible refine LeO.ite ?_ ?_)
   | (with_reducible refine LeO.bind ?_ (fun _ => ?_))
   | exact ih0 _ _ _
   | exact ih1 _ _ _ _
   | exact ih2 _ _ _ _
   | exact ih3 _ _ _ _ _ _
   | exact ih4 _ _ _ _ _ _
   | exact ih5 _ _ _ _
   | exact archivistref01_Get.mono _ _
   | exact archivistref06_Name.mono _ _
   | exact LeO.none _
   | refine LeO.ite ?_ ?_
   | refine LeO.bind ?_ (fun _ => ?_)
  ·intro y0 y1 y2 y3
   unfold archivistref10_All.j3
   repeat' first
   | (with_reducible exact ih0 _ _ _)
   | (with_reducible exact ih1 _ _ _ _)
   | (with_reducible exact ih2 _ _ _ _)
   | (with_reducible exact ih3 _ _ _ _ _ _)
   | (with_reducible exact ih4 _ _ _ _ _ _)
   | (with_reducible exact ih5 _ _ _ _)
   | (with_reducible exact archivistref01_Get.mono _ _)
   | (with_reducible exact archivistref06_Name.mono _ _)
   | (with_reducible exact LeO.refl _)
   | (with_reducible exact LeO.none _)
   | (with_reducible refine LeO.ite ?_ ?_)
   | (with_reducible refine LeO.bind ?_ (fun _ => ?_))
   | exact ih0 _ _ _
   | exact ih1 _ _ _ _
   | exact ih2 _ _ _ _
   | exact ih3 _ _ _ _ _ _
   | exact ih4 _ _ _ _ _ _
   | exact ih5 _ _ _ _
   | exact archivistref01_Get.mono _ _
   | exact archivistref06_Name.mono _ _
   | exact LeO.none _
   | refine LeO.ite ?_ ?_
   | refine LeO.bind ?_ (fun _ => ?_)
  ·intro y0 y1 y2 y3 y4 y5
   unfold archivistref10_All.j4
   repeat' first
   | (with_reducible exact ih0 _ _ _)
   | (with_reducible exact ih1 _ _ _ _)
   | (with_reducible exact ih2 _ _ _ _)
   | (with_reducible exact ih3 _ _ _ _ _ _)
   | (with_reducible exact ih4 _ _ _ _ _ _)
   | (with_reducible exact ih5 _ _ _ _)
   | (with_reducible exact archivistref01_Get.mono _ _)
   | (with_reducible exact archivistref06_Name.mono _ _)
   | (with_reducible exact LeO.refl _)
   | (with_reducible exact LeO.none _)
   | (with_reducible refine LeO.ite ?_ ?_)
   | (with_reducible refine LeO.bind ?_ (fun _ => ?_))
   | exact ih0 _ _ _
   | exact ih1 _ _ _ _
   | exact ih2 _ _ _ _
   | exact ih3 _ _ _ _ _ _
   | exact ih4 _ _ _ _ _ _
   | exact ih5 _ _ _ _
   | exact archivistref01_Get.mono _ _
   | exact archivistref06_Name.mono _ _
   | exact LeO.none _
   | refine LeO.ite ?_ ?_
   | refine LeO.bind ?_ (fun _ => ?_)
  ·intro y0 y1 y2 y3 y4 y5
   unfold archivistref10_All.l2
   repeat' first
   | (with_reducible exact ih0 _ _ _)
   | (with_reducible exact ih1 _ _ _ _)
   | (with_reducible exact ih2 _ _ _ _)
   | (with_reducible exact ih3 _ _ _ _ _ _)
   | (with_reducible exact ih4 _ _ _ _ _ _)
   | (with_reducible exact ih5 _ _ _ _)
   | (with_reducible exact archivistref01_Get.mono _ _)
   | (with_reducible exact archivistref06_Name.mono _ _)
   | (with_reducible exact LeO.refl _)
   | (with_reducible exact LeO.none _)
   | (with_reducible refine LeO.ite ?_ ?_)
   | (with_reducible refine LeO.bind ?_ (fun _ => ?_))
   | exact ih0 _ _ _
   | exact ih1 _ _ _ _
   | exact ih2 _ _ _ _
   | exact ih3 _ _ _ _ _ _
   | exact ih4 _ _ _ _ _ _
   | exact ih5 _ _ _ _
   | exact archivistref01_Get.mono _ _
   | exact archivistref06_Name.mono _ _
   | exact LeO.none _
   | refine LeO.ite ?_ ?_
   | refine LeO.bind ?_ (fun _ => ?_)
  ·intro y0 y1 y2 y3
   unfold archivistref10_All.l1
   repeat' first
   | (with_reducible exact ih0 _ _ _)
   | (with_reducible exact ih1 _ _ _ _)
   | (with_reducible exact ih2 _ _ _ _)
   | (with_reducible exact ih3 _ _ _ _ _ _)
   | (with_reducible exact ih4 _ _ _ _ _ _)
   | (with_reducible exact ih5 _ _ _ _)
   | (with_reducible exact archivistref01_Get.mono _ _)
   | (with_reducible exact archivistref06_Name.mono _ _)
   | (with_reducible exact LeO.refl _)
   | (with_reducible exact LeO.none _)
   | (with_reducible refine LeO.ite ?_ ?_)
   | (with_reducible refine LeO.bind ?_ (fun _ => ?_))
   | exact ih0 _ _ _
   | exact ih1 _ _ _ _
   | exact ih2 _ _ _ _
   | exact ih3 _ _ _ _ _ _
   | exact ih4 _ _ _ _ _ _
   | exact ih5 _ _ _ _
   | exact archivistref01_Get.mono _ _
   | exact archivistref06_Name.mono _ _
   | exact LeO.none _
   | refine LeO.ite ?_ ?_
   | refine LeO.bind ?_ (fun _ => ?_)
theorem archivistref10_All.mono : ∀ a0 k, LeO (archivistref10_All.f k a0) (archivistref10_All.f (k + 1) a0) := by
 intro a0 k
 obtain ⟨ih0, ih1, ih2, ih3, ih4, ih5⟩ := archivistref10_All.mono_l k
 unfold archivistref10_All.f
 repeat' first
   | (with_reducible exact ih0 _ _ _)
   | (with_reducible exact ih1 _ _ _ _)
   | (with_reducible exact ih2 _ _ _ _)
   | (with_reducible exact ih3 _ _ _ _ _ _)
   | (with_reducible exact ih4 _ _ _ _ _ _)
   | (with_reducible exact ih5 _ _ _ _)
   | (with_reducible exact archivistref01_Get.mono _ _)
   | (with_reducible exact archivistref06_Name.mono _ _)
   | (with_reducible exact LeO.refl _)
   | (with_reducible exact LeO.none _)
   | (with_reducible refine LeO.ite ?_ ?_)
   | (with_reducible refine LeO.bind ?_ (fun _ => ?_))
   | exact ih0 _ _ _
   | exact ih1 _ _ _ _
   | exact ih2 _ _ _ _
   | exact ih3 _ _ _ _ _ _
   | exact ih4 _ _ _ _ _ _
   | exact ih5 _ _ _ _
   | exact archivistref01_Get.mono _ _
   | exact archivistref06_Name.mono _ _
   | exact LeO.none _
   | refine LeO.ite ?_ ?_
   | refine LeO.bind ?_ (fun _ => ?_)
set_option maxHeartbeats 8000000 in
set_option maxRecDepth 100000 in
theorem archivistref10_All.calls (k : Nat) (a0 : ByteArray) (r : List (S54)) (w : World) (h : archivistref10_All.f k a0 = some r) :
  Calls Try.prog 13 #[.string a0] w fun e w' => ∃ v0_ : Value, e = .returned (v0_) ∧ Kd.R k54 54 w' w.heap.size (fun _ => True) v0_ r ∧ Below w.heap.size w w' := by
 have hu54 := Try.underlying54
 have HB := Aside0.mk (Below.refl w.heap.size w)
 have H : (archivistref10_All.l0 k a0 ([] : List (S54)) 0) = some r := h
 clear h
 have H' := Aside0.mk H
 clear H
 go_enter Try.func13, Try.ntmps13
 go_wp2
 go_loopg [3, 4] k (fun kq v3 v4 w' => ∃ (x3_1 : List (S54)) (x4_1 : Int), v4 = .int .i64 x4_1 ∧ Aside0 (archivistref10_All.l0 kq a0 x3_1 x4_1 = some r) ∧ Aside0 (kq ≤ k) ∧ Aside0 (Kd.R k54 54 w' w.heap.size (fun _ => True) v3 x3_1) ∧ Aside0 (Below w.heap.size w w'))
 case atStart => exact ⟨(([] : List (S54))), (0), rs, H', ⟨Nat.le_refl _⟩, ⟨by first | exact Kd.R_nil _ _ _ _ _ | exact Kd.N_nil _ _ _ _ _ | exact Kd.V_nil _ _ _ _ _ | exact Kd.Q_nil _ _ _ _ _ | exact Kd.S_nil _ _ _ _ _⟩, ⟨bl⟩⟩
 case round =>
  clear H'
  try clear c1
  obtain ⟨x3_1, x4_1, rfl, HA, HK1, HO_3, HB⟩ := hrel
  cases gk with
  | zero => exact absurd HA.out (by simp [archivistref10_All.l0])
  | succ k1 =>
   have H := HA.out
   clear HA
   simp only [archivistref10_All.l0] at H
   have HC2 := Aside0.mk H
   clear H
   go_upto_region 3 with (fail)
   go_cut [18] (fun v18 wc => ∃ (kq : Nat) (x18_1 : Bool), v18 = .bool x18_1 ∧ Aside0 (archivistref10_All.j1 kq a0 x3_1 x4_1 x18_1 = some r) ∧ Aside0 (kq ≤ k1) ∧ Aside0 (Kd.R k54 54 wc w.heap.size (fun _ => True) u3 x3_1) ∧ Aside0 (Below w.heap.size w wc))
   case first =>
    have H := HC2.out
    clear HC2
    by_cases c3 : x4_1 < (a0.size : Int)
    ·rw [if_pos c3] at H
     have c3b0 := decide_eq_true c3
     clear c3
     (first | rw [c3b0] | (simp only [i64_w, i32_w]; rw [c3b0]) | skip)
     have H' := Aside0.mk H
     clear H
     obtain ⟨Ao4, co4, eo4⟩ := Kd.R_slice HO_3.out
     subst eo4
     go_wp2
     go_meet
     case rel => exact ⟨_, (decide ((x3_1.length : Int) < 64)), rs, H', ⟨by have := HK1.out; first | omega | exact Nat.le_refl _⟩, ⟨rz HO_3.out⟩, ⟨bl⟩⟩
    ·rw [if_neg c3] at H
     have c3b0 : decide (x4_1 < (a0.size : Int)) = false := decide_eq_false c3
     clear c3
     (first | rw [c3b0] | (simp only [i64_w, i32_w]; rw [c3b0]) | skip)
     have H' := Aside0.mk H
     clear H
     go_wp2
     go_meet
     case rel => exact ⟨_, (false), rs, H', ⟨by have := HK1.out; first | omega | exact Nat.le_refl _⟩, ⟨rz HO_3.out⟩, ⟨bl⟩⟩
   case rest =>
    clear HC2
    try clear c1
    try clear p2
    try clear c3
    try clear c3b0
    obtain ⟨kq, x18_1, rfl, HA, HJ1, HO_3, HB⟩ := hcut
    cases kq with
    | zero => exact absurd HA.out (by simp [archivistref10_All.j1])
    | succ kj1 =>
     have H := HA.out
     clear HA
     simp only [archivistref10_All.j1] at H
     by_cases c5 : x18_1 = true
     ·subst c5
      have H1 : (archivistref10_All.l1 kj1 a0 x3_1 x4_1 x4_1) = some r := by rw [if_pos rfl] at H; exact H
      clear H
      have H := H1
      clear H1
      have HC6 := Aside0.mk H
      clear H
      go_upto_block 2 with (fail)
      go_cut [4] (fun v4 wc => ∃ (kq : Nat) (x4_5 : Int), v4 = .int .i64 x4_5 ∧ Aside0 (archivistref10_All.j3 kq a0 x3_1 x4_5 x4_1 = some r) ∧ Aside0 (kq ≤ kj1) ∧ Aside0 (Kd.R k54 54 wc w.heap.size (fun _ => True) u3 x3_1) ∧ Aside0 (Below w.heap.size w wc))
      case first =>
       have H := HC6.out
       clear HC6
       have H' := Aside0.mk H
       clear H
       go_wp2
       go_loopg [4] kj1 (fun kq v4 w' => ∃ (x4_3 : Int), v4 = .int .i64 x4_3 ∧ Aside0 (archivistref10_All.l1 kq a0 x3_1 x4_3 x4_1 = some r) ∧ Aside0 (kq ≤ kj1) ∧ Aside0 (Kd.R k54 54 w' w.heap.size (fun _ => True) u3 x3_1) ∧ Aside0 (Below w.heap.size w w'))
       case atStart => exact ⟨(x4_1), rs, H', ⟨Nat.le_refl _⟩, ⟨rz HO_3.out⟩, ⟨bl⟩⟩
       case round =>
        clear H'
        try clear c1
        try clear p2
        try clear c3
        try clear c3b0
        try clear c5
        try clear p2
        obtain ⟨x4_3, rfl, HA, HK3, HO_3, HB⟩ := hrel
        cases gk with
        | zero => exact absurd HA.out (by simp [archivistref10_All.l1])
        | succ k3 =>
         have H := HA.out
         clear HA
         simp only [archivistref10_All.l1] at H
         by_cases c7 : x4_3 < (a0.size : Int)
         ·rw [if_pos c7] at H
          have c7b0 := decide_eq_true c7
          clear c7
          (first | rw [c7b0] | (simp only [i64_w, i32_w]; rw [c7b0]) | skip)
          by_cases c8 : 0 ≤ x4_3
          ·rw [if_pos c8] at H
           have c8b0 := decide_eq_true c8
           clear c8
           replace H := Option.bind_eq_some_iff.mp H
           obtain ⟨t273, A100, H⟩ := H
           replace H : (if t273 = true then (archivistref10_All.j3 k3 a0 x3_1 x4_3 x4_1) else (if (bt a0 x4_3) = 61 then (archivistref10_All.j3 k3 a0 x3_1 x4_3 x4_1) else (if (bt a0 x4_3) = 34 then (archivistref10_All.j3 k3 a0 x3_1 x4_3 x4_1) else (archivistref10_All.l1 k3 a0 x3_1 (wrap64 (x4_3 + 1)) x4_1)))) = some r := H
           have A10 := Aside0.mk A100
           clear A100
           by_cases c11 : t273 = true
           ·subst c11
            have H1 : (archivistref10_All.j3 k3 a0 x3_1 x4_3 x4_1) = some r := by rw [if_pos rfl] at H; exact H
            clear H
            have H := H1
            clear H1
            have H' := Aside0.mk H
            clear H
            have p9 : 0 ≤ (x4_3 : Int) := od
            have q9 : x4_3 < (a0.size : Int) := od
            have hx9 := bt_at a0 x4_3
            replace p9 := eq_true p9
            replace q9 := eq_true q9
            go_wp2_with (first | (go_at_call 26; (with_reducible refine (archivistref10_space.calls (bt a0 x4_3) true _ A10.out).mono ?_); rintro e w' ⟨rfl, ⟨nd, rfl⟩⟩))
            go_meet
            case rel => exact ⟨_, (x4_3), rs, H', ⟨by have := HK1.out; have := HJ1.out; have := HK3.out; first | omega | exact Nat.le_refl _⟩, ⟨rz HO_3.out⟩, ⟨bl⟩⟩
           ·replace c11 := Bool.eq_false_iff.mpr c11
            subst c11
            have H1 : (if (bt a0 x4_3) = 61 then (archivistref10_All.j3 k3 a0 x3_1 x4_3 x4_1) else (if (bt a0 x4_3) = 34 then (archivistref10_All.j3 k3 a0 x3_1 x4_3 x4_1) else (archivistref10_All.l1 k3 a0 x3_1 (wrap64 (x4_3 + 1)) x4_1))) = some r := by rw [if_neg (show ¬ (false = true) by decide)] at H; exact H
            clear H
            have H := H1
            clear H1
            by_cases c13 : (bt a0 x4_3) = 61
            ·rw [if_pos c13] at H
             have c13b0 : ((bt a0 x4_3) == 61) = true := beq_iff_eq.mpr c13
             have c13b1 : ((bt a0 x4_3) != 61) = false := bne_eq_false_iff_eq.mpr c13
             clear c13
             have H' := Aside0.mk H
             clear H
             have p9 : 0 ≤ (x4_3 : Int) := od
             have q9 : x4_3 < (a0.size : Int) := od
             have hx9 := bt_at a0 x4_3
             replace p9 := eq_true p9
             replace q9 := eq_true q9
             go_wp2_with (first | (go_at_call 26; (with_reducible refine (archivistref10_space.calls (bt a0 x4_3) false _ A10.out).mono ?_); rintro e w' ⟨rfl, ⟨nd, rfl⟩⟩; have p12 : 0 ≤ (x4_3 : Int) := od; have q12 : x4_3 < (a0.size : Int) := od; have hx12 := bt_at a0 x4_3; replace p12 := eq_true p12; replace q12 := eq_true q12))
             go_meet
             case rel => exact ⟨_, (x4_3), rs, H', ⟨by have := HK1.out; have := HJ1.out; have := HK3.out; first | omega | exact Nat.le_refl _⟩, ⟨rz HO_3.out⟩, ⟨bl⟩⟩
            ·rw [if_neg c13] at H
             have c13b0 : ((bt a0 x4_3) == 61) = false := beq_eq_false_iff_ne.mpr c13
             have c13b1 : ((bt a0 x4_3) != 61) = true := bne_iff_ne.mpr c13
             by_cases c15 : (bt a0 x4_3) = 34
             ·rw [if_pos c15] at H
              have c15b0 : ((bt a0 x4_3) == 34) = true := beq_iff_eq.mpr c15
              have c15b1 : ((bt a0 x4_3) != 34) = false := bne_eq_false_iff_eq.mpr c15
              clear c15
              have H' := Aside0.mk H
              clear H
              have p9 : 0 ≤ (x4_3 : Int) := od
              have q9 : x4_3 < (a0.size : Int) := od
              have hx9 := bt_at a0 x4_3
              replace p9 := eq_true p9
              replace q9 := eq_true q9
              go_wp2_with (first | (go_at_call 26; (with_reducible refine (archivistref10_space.calls (bt a0 x4_3) false _ A10.out).mono ?_); rintro e w' ⟨rfl, ⟨nd, rfl⟩⟩; have p12 : 0 ≤ (x4_3 : Int) := od; have q12 : x4_3 < (a0.size : Int) := od; have hx12 := bt_at a0 x4_3; replace p12 := eq_true p12; replace q12 := eq_true q12; have p14 : 0 ≤ (x4_3 : Int) := od; have q14 : x4_3 < (a0.size : Int) := od; have hx14 := bt_at a0 x4_3; replace p14 := eq_true p14; replace q14 := eq_true q14))
              go_meet
              case rel => exact ⟨_, (x4_3), rs, H', ⟨by have := HK1.out; have := HJ1.out; have := HK3.out; first | omega | exact Nat.le_refl _⟩, ⟨rz HO_3.out⟩, ⟨bl⟩⟩
             ·rw [if_neg c15] at H
              have c15b0 : ((bt a0 x4_3) == 34) = false := beq_eq_false_iff_ne.mpr c15
              have c15b1 : ((bt a0 x4_3) != 34) = true := bne_iff_ne.mpr c15
              have H' := Aside0.mk H
              clear H
              have p9 : 0 ≤ (x4_3 : Int) := od
              have q9 : x4_3 < (a0.size : Int) := od
              have hx9 := bt_at a0 x4_3
              replace p9 := eq_true p9
              replace q9 := eq_true q9
              go_wp2_with (first | (go_at_call 26; (with_reducible refine (archivistref10_space.calls (bt a0 x4_3) false _ A10.out).mono ?_); rintro e w' ⟨rfl, ⟨nd, rfl⟩⟩; have p12 : 0 ≤ (x4_3 : Int) := od; have q12 : x4_3 < (a0.size : Int) := od; have hx12 := bt_at a0 x4_3; replace p12 := eq_true p12; replace q12 := eq_true q12; have p14 : 0 ≤ (x4_3 : Int) := od; have q14 : x4_3 < (a0.size : Int) := od; have hx14 := bt_at a0 x4_3; replace p14 := eq_true p14; replace q14 := eq_true q14))
              go_roundg k3
              case measure => have := HK1.out; have := HJ1.out; have := HK3.out; omega
              case rel => exact ⟨(wrap64 (x4_3 + 1)), rs, H', ⟨by have := HK1.out; have := HJ1.out; have := HK3.out; omega⟩, ⟨rz HO_3.out⟩, ⟨bl⟩⟩
          ·rw [if_neg c8] at H
           exact absurd H (by simp)
         ·rw [if_neg c7] at H
          have c7b0 : decide (x4_3 < (a0.size : Int)) = false := decide_eq_false c7
          clear c7
          (first | rw [c7b0] | (simp only [i64_w, i32_w]; rw [c7b0]) | skip)
          have H' := Aside0.mk H
          clear H
          go_wp2
          go_meet
          case rel => exact ⟨_, (x4_3), rs, H', ⟨by have := HK1.out; have := HJ1.out; have := HK3.out; first | omega | exact Nat.le_refl _⟩, ⟨rz HO_3.out⟩, ⟨bl⟩⟩
      case rest =>
       clear HC6
       try clear c1
       try clear p1
       try clear q1
       try clear hx1
       try clear p2
       try clear c3
       try clear c3b0
       try clear c5
       try clear p6
       try clear c7
       try clear c7b0
       try clear c8
       try clear c8b0
       try clear p9
       try clear q9
       try clear hx9
       try clear c11
       try clear p12
       try clear q12
       try clear hx12
       try clear c13
       try clear c13b0
       try clear c13b1
       try clear p14
       try clear q14
       try clear hx14
       try clear c15
       try clear c15b0
       try clear c15b1
       try clear p12
       try clear p14
       try clear p2
       try clear p9
       try clear q12
       try clear q14
       try clear q9
       obtain ⟨kq, x4_5, rfl, HA, HJ5, HO_3, HB⟩ := hcut
       cases kq with
       | zero => exact absurd HA.out (by simp [archivistref10_All.j3])
       | succ kj5 =>
        have H := HA.out
        clear HA
        simp only [archivistref10_All.j3] at H
        by_cases c16 : x4_5 = x4_1
        ·rw [if_pos c16] at H
         have c16b0 : (x4_5 == x4_1) = true := beq_iff_eq.mpr c16
         have c16b1 : (x4_5 != x4_1) = false := bne_eq_false_iff_eq.mpr c16
         clear c16
         have H' := Aside0.mk H
         clear H
         go_wp2
         go_roundg kj5
         case measure => have := HK1.out; have := HJ1.out; have := HJ5.out; omega
         case rel => exact ⟨(x3_1), (wrap64 (x4_5 + 1)), rs, H', ⟨by have := HK1.out; have := HJ1.out; have := HJ5.out; omega⟩, ⟨rz HO_3.out⟩, ⟨bl⟩⟩
        ·rw [if_neg c16] at H
         have c16b0 : (x4_5 == x4_1) = false := beq_eq_false_iff_ne.mpr c16
         have c16b1 : (x4_5 != x4_1) = true := bne_iff_ne.mpr c16
         by_cases c17 : 0 ≤ x4_1
         ·rw [if_pos c17] at H
          have c17b0 := eq_true c17
          have c17b1 : decide (0 ≤ x4_1) = true := decide_eq_true c17
          clear c17
          by_cases c18 : x4_1 ≤ x4_5
          ·rw [if_pos c18] at H
           have c18b0 := eq_true c18
           have c18b1 : decide (x4_1 ≤ x4_5) = true := decide_eq_true c18
           clear c18
           by_cases c19 : x4_5 ≤ (a0.size : Int)
           ·rw [if_pos c19] at H
            have c19b0 := eq_true c19
            have c19b1 : decide (x4_5 ≤ (a0.size : Int)) = true := decide_eq_true c19
            clear c19
            have HC20 := Aside0.mk H
            clear H
            go_upto_region 10 with (first | ((with_reducible refine gate_dst (N := 6) rfl ?_); (try (refine gate_guard (by rfl) ?_; dsimp only)); refine box_event ?hg (N := 6) ?hd (cs := #[.string (⟨#[]⟩ : ByteArray), .string (⟨#[]⟩ : ByteArray)]) (t := 54) ?hr ?_; (case hd => rfl); (case hg => rfl); (case hr => first | (go_simp; done) | (go_simp; rfl)); intro gb274 hg w21 hbox hb; have n0_ := Aside0.mk (Kd.R_below (Kd.R_elderB (rz HO_3.out) gb274 (Nat.le_of_eq hg.symm)) hb); have n1_ := Aside0.mk (below_step bl hb); have n2_ := Aside0.mk (hbox); have n3_ := Aside0.mk ((by rw [hg]; exact (below_size bl) : w.heap.size ≤ gb274)); have n4_ := Aside0.mk ((by rw [hg]; exact (below_size bl) : w.heap.size ≤ gb274)); clear HO_3; clear HB; have HO_3 := n0_; have HB := n1_; have BK274 := n2_; have GW274 := n3_; have GE274 := n4_; clear n0_ n1_ n2_ n3_ n4_; clear hb hbox hg; have hcz22_0 : w21.cell? ⟨gb274, 0, none⟩ = some (.string (⟨#[]⟩ : ByteArray)) := (blk_cell BK274.out 0).trans rfl; have hcz22_1 : w21.cell? ⟨gb274, 1, none⟩ = some (.string (⟨#[]⟩ : ByteArray)) := (blk_cell BK274.out 1).trans rfl; have hfz22_0 := blk_frozen BK274.out 0; have hfz22_1 := blk_frozen BK274.out 1))
            (try simp only [Act.put, List.setIfInBounds_toArray, List.set_cons_zero, List.set_cons_succ])
            go_cut [64] (fun v64 wc => ∃ (kq : Nat) (x64_19 : Bool), v64 = .bool x64_19 ∧ Aside0 (archivistref10_All.j4 kq a0 x3_1 x4_5 x64_19 (a0.extract (x4_1 : Int).toNat (x4_5 : Int).toNat) (⟨#[]⟩ : ByteArray) = some r) ∧ Aside0 (kq ≤ kj5) ∧ Aside0 (Kd.R k54 54 wc w.heap.size (fun k_ => k_ ≠ gb274) u3 x3_1) ∧ Aside0 (wc.heap[gb274]? = some (.cells #[.string (a0.extract (x4_1 : Int).toNat (x4_5 : Int).toNat), .string (⟨#[]⟩ : ByteArray)] 54 (0, 0))) ∧ Aside0 (Below w.heap.size w wc))
            case first =>
             have H := HC20.out
             clear HC20
             by_cases c23 : x4_5 < (a0.size : Int)
             ·rw [if_pos c23] at H
              have c23b0 := decide_eq_true c23
              clear c23
              (first | rw [c23b0] | (simp only [i64_w, i32_w]; rw [c23b0]) | skip)
              by_cases c24 : 0 ≤ x4_5
              ·rw [if_pos c24] at H
               have c24b0 := decide_eq_true c24
               clear c24
               have H' := Aside0.mk H
               clear H
               have p25 : 0 ≤ (x4_5 : Int) := od
               have q25 : x4_5 < (a0.size : Int) := od
               have hx25 := bt_at a0 x4_5
               replace p25 := eq_true p25
               replace q25 := eq_true q25
               go_wp2
               go_meet
               case rel => exact ⟨_, (((bt a0 x4_5) == 61)), rs, H', ⟨by have := HK1.out; have := HJ1.out; have := HJ5.out; first | omega | exact Nat.le_refl _⟩, ⟨by (with_reducible repeat (first | apply Kd.R_alloc | apply Kd.R_drewN | apply Kd.R_drew)); exact Kd.R_mono (Kd.R_far (p := ⟨gb274, 1, none⟩) (Kd.R_far (p := ⟨gb274, 0, none⟩) (Kd.R_mono HO_3.out (fun k_ hk => (⟨hk, hk.2⟩ : _ ∧ k_ ≠ gb274))) (fun _ hk => hk.2) (.string (a0.extract (x4_1 : Int).toNat (x4_5 : Int).toNat))) (fun _ hk => hk.2) (.string (⟨#[]⟩ : ByteArray))) (fun _ hk => hk.1.2)⟩, ⟨by (with_reducible repeat (first | refine blk_drewN ?_ _ | refine blk_drew ?_ | refine blk_alloc ?_ _)); refine blk_put (cs := #[.string (a0.extract (x4_1 : Int).toNat (x4_5 : Int).toNat), .string (⟨#[]⟩ : ByteArray)]) ?_ 1 _ rfl; (with_reducible repeat (first | refine blk_drewN ?_ _ | refine blk_drew ?_ | refine blk_alloc ?_ _)); refine blk_put (cs := #[.string (⟨#[]⟩ : ByteArray), .string (⟨#[]⟩ : ByteArray)]) ?_ 0 _ rfl; (with_reducible repeat (first | refine blk_drewN ?_ _ | refine blk_drew ?_ | refine blk_alloc ?_ _)); exact BK274.out⟩, ⟨by repeat (first | (with_reducible first | exact HB.out | apply below_alloc | apply pw_below_drewN | apply below_drew1 | refine below_set ?_ GE274.out) | exact HB.out)⟩⟩
              ·rw [if_neg c24] at H
               exact absurd H (by simp)
             ·rw [if_neg c23] at H
              have c23b0 : decide (x4_5 < (a0.size : Int)) = false := decide_eq_false c23
              clear c23
              (first | rw [c23b0] | (simp only [i64_w, i32_w]; rw [c23b0]) | skip)
              have H' := Aside0.mk H
              clear H
              go_wp2
              go_meet
              case rel => exact ⟨_, (false), rs, H', ⟨by have := HK1.out; have := HJ1.out; have := HJ5.out; first | omega | exact Nat.le_refl _⟩, ⟨by (with_reducible repeat (first | apply Kd.R_alloc | apply Kd.R_drewN | apply Kd.R_drew)); exact Kd.R_mono (Kd.R_far (p := ⟨gb274, 1, none⟩) (Kd.R_far (p := ⟨gb274, 0, none⟩) (Kd.R_mono HO_3.out (fun k_ hk => (⟨hk, hk.2⟩ : _ ∧ k_ ≠ gb274))) (fun _ hk => hk.2) (.string (a0.extract (x4_1 : Int).toNat (x4_5 : Int).toNat))) (fun _ hk => hk.2) (.string (⟨#[]⟩ : ByteArray))) (fun _ hk => hk.1.2)⟩, ⟨by (with_reducible repeat (first | refine blk_drewN ?_ _ | refine blk_drew ?_ | refine blk_alloc ?_ _)); refine blk_put (cs := #[.string (a0.extract (x4_1 : Int).toNat (x4_5 : Int).toNat), .string (⟨#[]⟩ : ByteArray)]) ?_ 1 _ rfl; (with_reducible repeat (first | refine blk_drewN ?_ _ | refine blk_drew ?_ | refine blk_alloc ?_ _)); refine blk_put (cs := #[.string (⟨#[]⟩ : ByteArray), .string (⟨#[]⟩ : ByteArray)]) ?_ 0 _ rfl; (with_reducible repeat (first | refine blk_drewN ?_ _ | refine blk_drew ?_ | refine blk_alloc ?_ _)); exact BK274.out⟩, ⟨by repeat (first | (with_reducible first | exact HB.out | apply below_alloc | apply pw_below_drewN | apply below_drew1 | refine below_set ?_ GE274.out) | exact HB.out)⟩⟩
            case rest =>
             clear HC20
             try clear c1
             try clear p1
             try clear q1
             try clear hx1
             try clear c2
             try clear p2
             try clear q2
             try clear hx2
             try clear c3
             try clear c3b0
             try clear c5
             try clear p6
             try clear c7
             try clear c7b0
             try clear c8
             try clear c8b0
             try clear p9
             try clear q9
             try clear hx9
             try clear c11
             try clear p12
             try clear q12
             try clear hx12
             try clear c13
             try clear c13b0
             try clear c13b1
             try clear p14
             try clear q14
             try clear hx14
             try clear c15
             try clear c15b0
             try clear c15b1
             try clear c16
             try clear c16b0
             try clear c16b1
             try clear c17
             try clear c17b0
             try clear c17b1
             try clear c18
             try clear c18b0
             try clear c18b1
             try clear c19
             try clear c19b0
             try clear c19b1
             try clear c23
             try clear c23b0
             try clear c24
             try clear c24b0
             try clear p25
             try clear q25
             try clear hx25
             try clear hcz22_0
             try clear hcz22_1
             try clear hfz22_0
             try clear hfz22_1
             try clear p1
             try clear p12
             try clear p14
             try clear p2
             try clear p25
             try clear p6
             try clear p9
             try clear q1
             try clear q12
             try clear q14
             try clear q25
             try clear q9
             obtain ⟨kq, x64_19, rfl, HA, HJ19, HO_3, BK274, HB⟩ := hcut
             cases kq with
             | zero => exact absurd HA.out (by simp [archivistref10_All.j4])
             | succ kj19 =>
              have H := HA.out
              clear HA
              simp only [archivistref10_All.j4] at H
              by_cases c26 : x64_19 = true
              ·subst c26
               have H1 : (if 0 ≤ (wrap64 (x4_5 + 1)) then (if (wrap64 (x4_5 + 1)) ≤ (a0.size : Int) then ((archivistref01_Get.f kj19 (a0.extract ((wrap64 (x4_5 + 1)) : Int).toNat a0.size)).bind fun bt275 => (if bt275.2.2 = true then ((archivistref06_Name.f kj19 (a0.extract (x4_1 : Int).toNat (x4_5 : Int).toNat)).bind fun t278 => (if t278 = true then (if (bt275.1.size : Int) ≤ 256 then (if x3_1.length < 4398046511104 then (archivistref10_All.l0 kj19 a0 (x3_1 ++ [(⟨(a0.extract (x4_1 : Int).toNat (x4_5 : Int).toNat), bt275.1⟩ : S54)]) (wrap64 ((wrap64 (x4_5 + 1)) + bt275.2.1))) else (none)) else (archivistref10_All.l0 kj19 a0 x3_1 (wrap64 ((wrap64 (x4_5 + 1)) + bt275.2.1)))) else (archivistref10_All.l0 kj19 a0 x3_1 (wrap64 ((wrap64 (x4_5 + 1)) + bt275.2.1))))) else (archivistref10_All.l2 kj19 a0 x3_1 (wrap64 (x4_5 + 1)) 0 (a0.extract (x4_1 : Int).toNat (x4_5 : Int).toNat) (⟨#[]⟩ : ByteArray)))) else (none)) else (none)) = some r := by rw [if_pos rfl] at H; exact H
               clear H
               have H := H1
               clear H1
               obtain ⟨ji27, hji27⟩ : ∃ j_ : Int, (wrap64 (x4_5 + 1)) = j_ := ⟨_, rfl⟩
               replace H : (if 0 ≤ (ji27) then (if (ji27) ≤ (a0.size : Int) then ((archivistref01_Get.f kj19 (a0.extract ((ji27) : Int).toNat a0.size)).bind fun bt275 => (if bt275.2.2 = true then ((archivistref06_Name.f kj19 (a0.extract (x4_1 : Int).toNat (x4_5 : Int).toNat)).bind fun t278 => (if t278 = true then (if (bt275.1.size : Int) ≤ 256 then (if x3_1.length < 4398046511104 then (archivistref10_All.l0 kj19 a0 (x3_1 ++ [(⟨(a0.extract (x4_1 : Int).toNat (x4_5 : Int).toNat), bt275.1⟩ : S54)]) (wrap64 ((ji27) + bt275.2.1))) else (none)) else (archivistref10_All.l0 kj19 a0 x3_1 (wrap64 ((ji27) + bt275.2.1)))) else (archivistref10_All.l0 kj19 a0 x3_1 (wrap64 ((ji27) + bt275.2.1))))) else (archivistref10_All.l2 kj19 a0 x3_1 ji27 0 (a0.extract (x4_1 : Int).toNat (x4_5 : Int).toNat) (⟨#[]⟩ : ByteArray)))) else (none)) else (none)) = some r := by first | (rw [hji27] at H; exact H) | (simp only [hji27] at H ⊢; exact H)
               have hji27w : (IntKind.i64.wrap (x4_5 + 1)) = ji27 := (i64_w _).trans hji27
               by_cases c28 : 0 ≤ (ji27)
               ·rw [if_pos c28] at H
                have c28b0 := eq_true c28
                have c28b1 : decide (0 ≤ (ji27)) = true := decide_eq_true c28
                clear c28
                by_cases c29 : (ji27) ≤ (a0.size : Int)
                ·rw [if_pos c29] at H
                 have c29b0 := eq_true c29
                 have c29b1 : decide ((ji27) ≤ (a0.size : Int)) = true := decide_eq_true c29
                 clear c29
                 replace H := Option.bind_eq_some_iff.mp H
                 obtain ⟨⟨t275, t276, t277⟩, A300, H⟩ := H
                 replace H : (if t277 = true then ((archivistref06_Name.f kj19 (a0.extract (x4_1 : Int).toNat (x4_5 : Int).toNat)).bind fun t278 => (if t278 = true then (if (t275.size : Int) ≤ 256 then (if x3_1.length < 4398046511104 then (archivistref10_All.l0 kj19 a0 (x3_1 ++ [(⟨(a0.extract (x4_1 : Int).toNat (x4_5 : Int).toNat), t275⟩ : S54)]) (wrap64 ((ji27) + t276))) else (none)) else (archivistref10_All.l0 kj19 a0 x3_1 (wrap64 ((ji27) + t276)))) else (archivistref10_All.l0 kj19 a0 x3_1 (wrap64 ((ji27) + t276))))) else (archivistref10_All.l2 kj19 a0 x3_1 ji27 0 (a0.extract (x4_1 : Int).toNat (x4_5 : Int).toNat) (⟨#[]⟩ : ByteArray))) = some r := H
                 have A30 := Aside0.mk A300
                 clear A300
                 by_cases c31 : t277 = true
                 ·subst c31
                  have H1 : ((archivistref06_Name.f kj19 (a0.extract (x4_1 : Int).toNat (x4_5 : Int).toNat)).bind fun t278 => (if t278 = true then (if (t275.size : Int) ≤ 256 then (if x3_1.length < 4398046511104 then (archivistref10_All.l0 kj19 a0 (x3_1 ++ [(⟨(a0.extract (x4_1 : Int).toNat (x4_5 : Int).toNat), t275⟩ : S54)]) (wrap64 ((ji27) + t276))) else (none)) else (archivistref10_All.l0 kj19 a0 x3_1 (wrap64 ((ji27) + t276)))) else (archivistref10_All.l0 kj19 a0 x3_1 (wrap64 ((ji27) + t276))))) = some r := by rw [if_pos rfl] at H; exact H
                  clear H
                  have H := H1
                  clear H1
                  replace H := Option.bind_eq_some_iff.mp H
                  obtain ⟨t278, A320, H⟩ := H
                  replace H : (if t278 = true then (if (t275.size : Int) ≤ 256 then (if x3_1.length < 4398046511104 then (archivistref10_All.l0 kj19 a0 (x3_1 ++ [(⟨(a0.extract (x4_1 : Int).toNat (x4_5 : Int).toNat), t275⟩ : S54)]) (wrap64 ((ji27) + t276))) else (none)) else (archivistref10_All.l0 kj19 a0 x3_1 (wrap64 ((ji27) + t276)))) else (archivistref10_All.l0 kj19 a0 x3_1 (wrap64 ((ji27) + t276)))) = some r := H
                  have A32 := Aside0.mk A320
                  clear A320
                  by_cases c33 : t278 = true
                  ·subst c33
                   have H1 : (if (t275.size : Int) ≤ 256 then (if x3_1.length < 4398046511104 then (archivistref10_All.l0 kj19 a0 (x3_1 ++ [(⟨(a0.extract (x4_1 : Int).toNat (x4_5 : Int).toNat), t275⟩ : S54)]) (wrap64 ((ji27) + t276))) else (none)) else (archivistref10_All.l0 kj19 a0 x3_1 (wrap64 ((ji27) + t276)))) = some r := by rw [if_pos rfl] at H; exact H
                   clear H
                   have H := H1
                   clear H1
                   by_cases c34 : (t275.size : Int) ≤ 256
                   ·rw [if_pos c34] at H
                    have c34b0 := decide_eq_true c34
                    have c34b1 : decide (t275.size ≤ 256) = true := decide_eq_true (by omega)
                    clear c34
                    by_cases c35 : x3_1.length < 4398046511104
                    ·rw [if_pos c35] at H
                     have LMc35 := Aside0.mk c35
                     clear c35
                     obtain ⟨y279, hy279⟩ : ∃ y_ : List (S54), y_ = (x3_1 ++ [(⟨(a0.extract (x4_1 : Int).toNat (x4_5 : Int).toNat), t275⟩ : S54)]) := ⟨_, rfl⟩
                     replace H : (archivistref10_All.l0 kj19 a0 y279 (wrap64 ((ji27) + t276))) = some r := by first | (rw [hy279]; with_reducible exact H) | (have H2_ := (Option.bind_some _ _).symm.trans H; rw [hy279]; with_reducible exact H2_) | (have H2_ := (Option.bind_some _ _).symm.trans H; with_reducible exact H2_) | with_reducible exact H | (rw [hy279]; exact H) | exact H
                     have Ny279 := Aside0.mk hy279
                     clear hy279
                     have H' := Aside0.mk H
                     clear H
                     go_wp2_with (first | ((with_reducible refine gate_callee (f := 27) rfl ?_); refine goesL_ (some 71) rfl rfl Try.func27 (by kernel_rfl) rfl #[.string (a0.extract ((ji27) : Int).toNat a0.size)] rfl (by (try simp only [List.map_toArray, List.map_cons, List.map_nil]); first | done | (simp only [hji27]; rfl) | rfl | (simp only [List.length_drop, List.length_take]; rfl)) ?_; (with_reducible refine (archivistref01_Get.calls kj19 (a0.extract ((ji27) : Int).toNat a0.size) t275 t276 true _ A30.out).mono ?_); rintro e w36 ⟨rfl, hb⟩; refine ⟨_, rfl, ?_⟩; have n0_ := Aside0.mk (Kd.R_below (rz HO_3.out) hb); have n1_ := Aside0.mk (blk_below (g := gb274) (o := .cells #[.string (a0.extract (x4_1 : Int).toNat (x4_5 : Int).toNat), .string (⟨#[]⟩ : ByteArray)] 54 (0, 0)) (bz BK274.out) hb); have n2_ := Aside0.mk (below_step (by repeat (first | (with_reducible first | exact HB.out | apply below_alloc | apply pw_below_drewN | apply below_drew1 | refine below_set ?_ GE274.out) | exact HB.out)) hb); clear HO_3; clear BK274; clear HB; have HO_3 := n0_; have BK274 := n1_; have HB := n2_; clear n0_ n1_ n2_; (try clear hb); (try clear hb2); (try clear hk); (try clear hi); have hcz37_0 : w36.cell? ⟨gb274, 0, none⟩ = some (.string (a0.extract (x4_1 : Int).toNat (x4_5 : Int).toNat)) := (blk_cell BK274.out 0).trans rfl; have hcz37_1 : w36.cell? ⟨gb274, 1, none⟩ = some (.string (⟨#[]⟩ : ByteArray)) := (blk_cell BK274.out 1).trans rfl; have hfz37_0 := blk_frozen BK274.out 0; have hfz37_1 := blk_frozen BK274.out 1) | ((with_reducible refine gate_callee (f := 28) rfl ?_); refine goesL_ (some 107) rfl rfl Try.func28 (by kernel_rfl) rfl #[.string (a0.extract (x4_1 : Int).toNat (x4_5 : Int).toNat)] rfl ml ?_; (with_reducible refine (archivistref06_Name.calls kj19 (a0.extract (x4_1 : Int).toNat (x4_5 : Int).toNat) true _ A32.out).mono ?_); rintro e w' ⟨rfl, ⟨nd, rfl⟩⟩; refine ⟨_, rfl, ?_⟩) | ((with_reducible refine gate_builtin (b := .append) (xs := #[.tmp 114, .tmp 116]) rfl ?_); (try (refine gate_guard (by rfl) ?_; dsimp only)); at_builtin; refine Kd.R_append k54 (w0 := w) w.heap.size rfl (.tmp 114) (.tmp 116) 30 54 (.agg #[(.string ⟨#[]⟩), (.string ⟨#[]⟩)]) 32 rfl Try.underlying30 info54 rfl (by decide) (by omega) u3 x3_1 (⟨(a0.extract (x4_1 : Int).toNat (x4_5 : Int).toNat), t275⟩ : S54) [.string (a0.extract (x4_1 : Int).toNat (x4_5 : Int).toNat), .string t275] (fun k_ => k_ ≠ gb274) (fun _ => False) rfl (by first | (go_simp; done) | (go_simp; rfl)) ?aP (fun _ hk => hk.elim) ?aF ?aO ?aB ?aS ?aL ?_; (case aP => exact k54_mkM _ _ _ (⟨(a0.extract (x4_1 : Int).toNat (x4_5 : Int).toNat), t275⟩ : S54)); (case aB => exact (by repeat (first | (with_reducible first | exact HB.out | apply below_alloc | apply pw_below_drewN | apply below_drew1 | refine below_set ?_ GE274.out) | exact HB.out))); (case aF => exact (fun k_ hk => Kd.freshB (g := gb274) (o := .cells #[.string (a0.extract (x4_1 : Int).toNat (x4_5 : Int).toNat), .string t275] 54 (0, 0)) (by (with_reducible repeat (first | refine blk_drewN ?_ _ | refine blk_drew ?_ | refine blk_alloc ?_ _)); refine blk_put (cs := #[.string (a0.extract (x4_1 : Int).toNat (x4_5 : Int).toNat), .string (⟨#[]⟩ : ByteArray)]) ?_ 1 _ rfl; (with_reducible repeat (first | refine blk_drewN ?_ _ | refine blk_drew ?_ | refine blk_alloc ?_ _)); exact BK274.out) k_ hk)); (case aO => exact (by (with_reducible repeat (first | apply Kd.R_alloc | apply Kd.R_drewN | apply Kd.R_drew)); exact Kd.R_mono (Kd.R_far (p := ⟨gb274, 1, none⟩) (Kd.R_mono HO_3.out (fun k_ hk => (⟨hk, hk⟩ : _ ∧ k_ ≠ gb274))) (fun _ hk => hk.2) (.string t275)) (fun _ hk => hk.1))); (case aS => exact (below_size (by repeat (first | (with_reducible first | exact HB.out | apply below_alloc | apply pw_below_drewN | apply below_drew1 | refine below_set ?_ GE274.out) | exact HB.out)))); (case aL => have := LMc35.out; omega); intro v280 w38 ho hb hg hat; rw [← Ny279.out] at ho; have n0_ := Aside0.mk (blk_grown (g := gb274) (o := .cells #[.string (a0.extract (x4_1 : Int).toNat (x4_5 : Int).toNat), .string t275] 54 (0, 0)) (by (with_reducible repeat (first | refine blk_drewN ?_ _ | refine blk_drew ?_ | refine blk_alloc ?_ _)); refine blk_put (cs := #[.string (a0.extract (x4_1 : Int).toNat (x4_5 : Int).toNat), .string (⟨#[]⟩ : ByteArray)]) ?_ 1 _ rfl; (with_reducible repeat (first | refine blk_drewN ?_ _ | refine blk_drew ?_ | refine blk_alloc ?_ _)); exact BK274.out) hg (Kd.R_away HO_3.out (fun _ hk => hk))); have n1_ := Aside0.mk (hb); have n2_ := Aside0.mk (ho); clear BK274; clear HB; clear HO_3; have BK274 := n0_; have HB := n1_; have HO281 := n2_; clear n0_ n1_ n2_; clear ho hb hg hat))
                     go_roundg kj19
                     case measure => have := HK1.out; have := HJ1.out; have := HJ5.out; have := HJ19.out; omega
                     case rel => exact ⟨(y279), (wrap64 ((ji27) + t276)), (by first | rfl | (simp; done) | (simp only [← hji27] <;> (first | rfl | simp)) | (simp [*]; done)), H', ⟨by have := HK1.out; have := HJ1.out; have := HJ5.out; have := HJ19.out; omega⟩, ⟨by (with_reducible repeat (first | apply Kd.R_alloc | apply Kd.R_drewN | apply Kd.R_drew)); exact Kd.R_mono HO281.out (fun _ hk => trivial)⟩, ⟨by repeat (first | (with_reducible first | exact HB.out | apply below_alloc | apply pw_below_drewN | apply below_drew1 | refine below_set ?_ GE274.out) | exact HB.out)⟩⟩
                    ·rw [if_neg c35] at H
                     exact absurd H (by simp)
                   ·rw [if_neg c34] at H
                    have c34b0 : decide ((t275.size : Int) ≤ 256) = false := decide_eq_false c34
                    have c34b1 : decide (t275.size ≤ 256) = false := decide_eq_false (by omega)
                    clear c34
                    have H' := Aside0.mk H
                    clear H
                    go_wp2_with (first | ((with_reducible refine gate_callee (f := 27) rfl ?_); refine goesL_ (some 71) rfl rfl Try.func27 (by kernel_rfl) rfl #[.string (a0.extract ((ji27) : Int).toNat a0.size)] rfl (by (try simp only [List.map_toArray, List.map_cons, List.map_nil]); first | done | (simp only [hji27]; rfl) | rfl | (simp only [List.length_drop, List.length_take]; rfl)) ?_; (with_reducible refine (archivistref01_Get.calls kj19 (a0.extract ((ji27) : Int).toNat a0.size) t275 t276 true _ A30.out).mono ?_); rintro e w39 ⟨rfl, hb⟩; refine ⟨_, rfl, ?_⟩; have n0_ := Aside0.mk (Kd.R_below (rz HO_3.out) hb); have n1_ := Aside0.mk (blk_below (g := gb274) (o := .cells #[.string (a0.extract (x4_1 : Int).toNat (x4_5 : Int).toNat), .string (⟨#[]⟩ : ByteArray)] 54 (0, 0)) (bz BK274.out) hb); have n2_ := Aside0.mk (below_step (by repeat (first | (with_reducible first | exact HB.out | apply below_alloc | apply pw_below_drewN | apply below_drew1 | refine below_set ?_ GE274.out) | exact HB.out)) hb); clear HO_3; clear BK274; clear HB; have HO_3 := n0_; have BK274 := n1_; have HB := n2_; clear n0_ n1_ n2_; (try clear hb); (try clear hb2); (try clear hk); (try clear hi); have hcz40_0 : w39.cell? ⟨gb274, 0, none⟩ = some (.string (a0.extract (x4_1 : Int).toNat (x4_5 : Int).toNat)) := (blk_cell BK274.out 0).trans rfl; have hcz40_1 : w39.cell? ⟨gb274, 1, none⟩ = some (.string (⟨#[]⟩ : ByteArray)) := (blk_cell BK274.out 1).trans rfl; have hfz40_0 := blk_frozen BK274.out 0; have hfz40_1 := blk_frozen BK274.out 1) | ((with_reducible refine gate_callee (f := 28) rfl ?_); refine goesL_ (some 107) rfl rfl Try.func28 (by kernel_rfl) rfl #[.string (a0.extract (x4_1 : Int).toNat (x4_5 : Int).toNat)] rfl ml ?_; (with_reducible refine (archivistref06_Name.calls kj19 (a0.extract (x4_1 : Int).toNat (x4_5 : Int).toNat) true _ A32.out).mono ?_); rintro e w' ⟨rfl, ⟨nd, rfl⟩⟩; refine ⟨_, rfl, ?_⟩))
                    go_roundg kj19
                    case measure => have := HK1.out; have := HJ1.out; have := HJ5.out; have := HJ19.out; omega
                    case rel => exact ⟨(x3_1), (wrap64 ((ji27) + t276)), (by first | rfl | (simp; done) | (simp only [← hji27] <;> (first | rfl | simp)) | (simp [*]; done)), H', ⟨by have := HK1.out; have := HJ1.out; have := HJ5.out; have := HJ19.out; omega⟩, ⟨by (with_reducible repeat (first | apply Kd.R_alloc | apply Kd.R_drewN | apply Kd.R_drew)); exact Kd.R_mono (Kd.R_far (p := ⟨gb274, 1, none⟩) (Kd.R_mono HO_3.out (fun k_ hk => (⟨hk, hk⟩ : _ ∧ k_ ≠ gb274))) (fun _ hk => hk.2) (.string t275)) (fun _ hk => trivial)⟩, ⟨by repeat (first | (with_reducible first | exact HB.out | apply below_alloc | apply pw_below_drewN | apply below_drew1 | refine below_set ?_ GE274.out) | exact HB.out)⟩⟩
                  ·replace c33 := Bool.eq_false_iff.mpr c33
                   subst c33
                   have H1 : (archivistref10_All.l0 kj19 a0 x3_1 (wrap64 ((ji27) + t276))) = some r := by rw [if_neg (show ¬ (false = true) by decide)] at H; exact H
                   clear H
                   have H := H1
                   clear H1
                   have H' := Aside0.mk H
                   clear H
                   go_wp2_with (first | ((with_reducible refine gate_callee (f := 27) rfl ?_); refine goesL_ (some 71) rfl rfl Try.func27 (by kernel_rfl) rfl #[.string (a0.extract ((ji27) : Int).toNat a0.size)] rfl (by (try simp only [List.map_toArray, List.map_cons, List.map_nil]); first | done | (simp only [hji27]; rfl) | rfl | (simp only [List.length_drop, List.length_take]; rfl)) ?_; (with_reducible refine (archivistref01_Get.calls kj19 (a0.extract ((ji27) : Int).toNat a0.size) t275 t276 true _ A30.out).mono ?_); rintro e w41 ⟨rfl, hb⟩; refine ⟨_, rfl, ?_⟩; have n0_ := Aside0.mk (Kd.R_below (rz HO_3.out) hb); have n1_ := Aside0.mk (blk_below (g := gb274) (o := .cells #[.string (a0.extract (x4_1 : Int).toNat (x4_5 : Int).toNat), .string (⟨#[]⟩ : ByteArray)] 54 (0, 0)) (bz BK274.out) hb); have n2_ := Aside0.mk (below_step (by repeat (first | (with_reducible first | exact HB.out | apply below_alloc | apply pw_below_drewN | apply below_drew1 | refine below_set ?_ GE274.out) | exact HB.out)) hb); clear HO_3; clear BK274; clear HB; have HO_3 := n0_; have BK274 := n1_; have HB := n2_; clear n0_ n1_ n2_; (try clear hb); (try clear hb2); (try clear hk); (try clear hi); have hcz42_0 : w41.cell? ⟨gb274, 0, none⟩ = some (.string (a0.extract (x4_1 : Int).toNat (x4_5 : Int).toNat)) := (blk_cell BK274.out 0).trans rfl; have hcz42_1 : w41.cell? ⟨gb274, 1, none⟩ = some (.string (⟨#[]⟩ : ByteArray)) := (blk_cell BK274.out 1).trans rfl; have hfz42_0 := blk_frozen BK274.out 0; have hfz42_1 := blk_frozen BK274.out 1) | ((with_reducible refine gate_callee (f := 28) rfl ?_); refine goesL_ (some 107) rfl rfl Try.func28 (by kernel_rfl) rfl #[.string (a0.extract (x4_1 : Int).toNat (x4_5 : Int).toNat)] rfl ml ?_; (with_reducible refine (archivistref06_Name.calls kj19 (a0.extract (x4_1 : Int).toNat (x4_5 : Int).toNat) false _ A32.out).mono ?_); rintro e w' ⟨rfl, ⟨nd, rfl⟩⟩; refine ⟨_, rfl, ?_⟩))
                   go_roundg kj19
                   case measure => have := HK1.out; have := HJ1.out; have := HJ5.out; have := HJ19.out; omega
                   case rel => exact ⟨(x3_1), (wrap64 ((ji27) + t276)), (by first | rfl | (simp; done) | (simp only [← hji27] <;> (first | rfl | simp)) | (simp [*]; done)), H', ⟨by have := HK1.out; have := HJ1.out; have := HJ5.out; have := HJ19.out; omega⟩, ⟨by (with_reducible repeat (first | apply Kd.R_alloc | apply Kd.R_drewN | apply Kd.R_drew)); exact Kd.R_mono (Kd.R_far (p := ⟨gb274, 1, none⟩) (Kd.R_mono HO_3.out (fun k_ hk => (⟨hk, hk⟩ : _ ∧ k_ ≠ gb274))) (fun _ hk => hk.2) (.string t275)) (fun _ hk => trivial)⟩, ⟨by repeat (first | (with_reducible first | exact HB.out | apply below_alloc | apply pw_below_drewN | apply below_drew1 | refine below_set ?_ GE274.out) | exact HB.out)⟩⟩
                 ·replace c31 := Bool.eq_false_iff.mpr c31
                  subst c31
                  have H1 : (archivistref10_All.l2 kj19 a0 x3_1 ji27 0 (a0.extract (x4_1 : Int).toNat (x4_5 : Int).toNat) (⟨#[]⟩ : ByteArray)) = some r := by rw [if_neg (show ¬ (false = true) by decide)] at H; exact H
                  clear H
                  have H := H1
                  clear H1
                  have H' := Aside0.mk H
                  clear H
                  go_wp2_with (first | ((with_reducible refine gate_callee (f := 27) rfl ?_); refine goesL_ (some 71) rfl rfl Try.func27 (by kernel_rfl) rfl #[.string (a0.extract ((ji27) : Int).toNat a0.size)] rfl (by (try simp only [List.map_toArray, List.map_cons, List.map_nil]); first | done | (simp only [hji27]; rfl) | rfl | (simp only [List.length_drop, List.length_take]; rfl)) ?_; (with_reducible refine (archivistref01_Get.calls kj19 (a0.extract ((ji27) : Int).toNat a0.size) t275 t276 false _ A30.out).mono ?_); rintro e w43 ⟨rfl, hb⟩; refine ⟨_, rfl, ?_⟩; have n0_ := Aside0.mk (Kd.R_below (rz HO_3.out) hb); have n1_ := Aside0.mk (blk_below (g := gb274) (o := .cells #[.string (a0.extract (x4_1 : Int).toNat (x4_5 : Int).toNat), .string (⟨#[]⟩ : ByteArray)] 54 (0, 0)) (bz BK274.out) hb); have n2_ := Aside0.mk (below_step (by repeat (first | (with_reducible first | exact HB.out | apply below_alloc | apply pw_below_drewN | apply below_drew1 | refine below_set ?_ GE274.out) | exact HB.out)) hb); clear HO_3; clear BK274; clear HB; have HO_3 := n0_; have BK274 := n1_; have HB := n2_; clear n0_ n1_ n2_; (try clear hb); (try clear hb2); (try clear hk); (try clear hi)))
                  go_loopg [8] kj19 (fun kq v8 w' => ∃ (x8_5 : Int), v8 = .int .i64 x8_5 ∧ Aside0 (archivistref10_All.l2 kq a0 x3_1 ji27 x8_5 (a0.extract (x4_1 : Int).toNat (x4_5 : Int).toNat) (⟨#[]⟩ : ByteArray) = some r) ∧ Aside0 (kq ≤ kj19) ∧ Aside0 (Kd.R k54 54 w' w.heap.size (fun k_ => k_ ≠ gb274) u3 x3_1) ∧ Aside0 (w'.heap[gb274]? = some (.cells #[.string (a0.extract (x4_1 : Int).toNat (x4_5 : Int).toNat), .string (⟨#[]⟩ : ByteArray)] 54 (0, 0))) ∧ Aside0 (Below w.heap.size w w'))
                  case atStart => exact ⟨(0), rs, H', ⟨Nat.le_refl _⟩, ⟨rz HO_3.out⟩, ⟨bz BK274.out⟩, ⟨by repeat (first | (with_reducible first | exact HB.out | apply below_alloc | apply pw_below_drewN | apply below_drew1 | refine below_set ?_ GE274.out) | exact HB.out)⟩⟩
                  case round =>
                   clear H'
                   try clear c1
                   try clear p1
                   try clear q1
                   try clear hx1
                   try clear c2
                   try clear p2
                   try clear q2
                   try clear hx2
                   try clear c3
                   try clear c3b0
                   try clear c5
                   try clear p6
                   try clear c7
                   try clear c7b0
                   try clear c8
                   try clear c8b0
                   try clear p9
                   try clear q9
                   try clear hx9
                   try clear c11
                   try clear p12
                   try clear q12
                   try clear hx12
                   try clear c13
                   try clear c13b0
                   try clear c13b1
                   try clear p14
                   try clear q14
                   try clear hx14
                   try clear c15
                   try clear c15b0
                   try clear c15b1
                   try clear c16
                   try clear c16b0
                   try clear c16b1
                   try clear c17
                   try clear c17b0
                   try clear c17b1
                   try clear c18
                   try clear c18b0
                   try clear c18b1
                   try clear c19
                   try clear c19b0
                   try clear c19b1
                   try clear c23
                   try clear c23b0
                   try clear c24
                   try clear c24b0
                   try clear p25
                   try clear q25
                   try clear hx25
                   try clear c26
                   try clear c27
                   try clear c28
                   try clear c28b0
                   try clear c28b1
                   try clear c29
                   try clear c29b0
                   try clear c29b1
                   try clear c31
                   try clear c33
                   try clear c34
                   try clear c34b0
                   try clear c34b1
                   try clear c35
                   try clear hcz22_0
                   try clear hcz22_1
                   try clear hcz37_0
                   try clear hcz37_1
                   try clear hcz40_0
                   try clear hcz40_1
                   try clear hcz42_0
                   try clear hcz42_1
                   try clear hfz22_0
                   try clear hfz22_1
                   try clear hfz37_0
                   try clear hfz37_1
                   try clear hfz40_0
                   try clear hfz40_1
                   try clear hfz42_0
                   try clear hfz42_1
                   try clear p1
                   try clear p12
                   try clear p14
                   try clear p2
                   try clear p25
                   try clear p6
                   try clear p9
                   try clear q1
                   try clear q12
                   try clear q14
                   try clear q2
                   try clear q25
                   try clear q9
                   obtain ⟨x8_5, rfl, HA, HK5, HO_3, BK274, HB⟩ := hrel
                   cases gk with
                   | zero => exact absurd HA.out (by simp [archivistref10_All.l2])
                   | succ k5 =>
                    have H := HA.out
                    clear HA
                    simp only [archivistref10_All.l2] at H
                    by_cases c44 : (wrap64 (ji27 + x8_5)) < (a0.size : Int)
                    ·rw [if_pos c44] at H
                     have c44b0 := decide_eq_true c44
                     clear c44
                     obtain ⟨ji45, hji45⟩ : ∃ j_ : Int, (wrap64 (ji27 + x8_5)) = j_ := ⟨_, rfl⟩
                     replace H : (if 0 ≤ (ji45) then ((archivistref10_space.f (bt a0 (ji45))).bind fun t282 => (if t282 = true then (if 0 ≤ ji27 then (if ji27 ≤ (ji45) then (if (ji45) ≤ (a0.size : Int) then ((archivistref06_Name.f k5 (a0.extract (x4_1 : Int).toNat (x4_5 : Int).toNat)).bind fun t283 => (if t283 = true then (if ((a0.extract (ji27 : Int).toNat ((ji45) : Int).toNat).size : Int) ≤ 256 then (if x3_1.length < 4398046511104 then (archivistref10_All.l0 k5 a0 (x3_1 ++ [(⟨(a0.extract (x4_1 : Int).toNat (x4_5 : Int).toNat), a0.extract (ji27 : Int).toNat ((ji45) : Int).toNat⟩ : S54)]) ji45) else (none)) else (archivistref10_All.l0 k5 a0 x3_1 ji45)) else (archivistref10_All.l0 k5 a0 x3_1 ji45))) else (none)) else (none)) else (none)) else (archivistref10_All.l2 k5 a0 x3_1 ji27 (wrap64 (x8_5 + 1)) (a0.extract (x4_1 : Int).toNat (x4_5 : Int).toNat) (⟨#[]⟩ : ByteArray)))) else (none)) = some r := by first | (rw [hji45] at H; exact H) | (simp only [hji45] at H ⊢; exact H)
                     (try rw [hji45] at c44b0)
                     have hji45w : (IntKind.i64.wrap (ji27 + x8_5)) = ji45 := (i64_w _).trans hji45
                     by_cases c46 : 0 ≤ (ji45)
                     ·rw [if_pos c46] at H
                      have c46b0 := decide_eq_true c46
                      clear c46
                      replace H := Option.bind_eq_some_iff.mp H
                      obtain ⟨t282, A480, H⟩ := H
                      replace H : (if t282 = true then (if 0 ≤ ji27 then (if ji27 ≤ (ji45) then (if (ji45) ≤ (a0.size : Int) then ((archivistref06_Name.f k5 (a0.extract (x4_1 : Int).toNat (x4_5 : Int).toNat)).bind fun t283 => (if t283 = true then (if ((a0.extract (ji27 : Int).toNat ((ji45) : Int).toNat).size : Int) ≤ 256 then (if x3_1.length < 4398046511104 then (archivistref10_All.l0 k5 a0 (x3_1 ++ [(⟨(a0.extract (x4_1 : Int).toNat (x4_5 : Int).toNat), a0.extract (ji27 : Int).toNat ((ji45) : Int).toNat⟩ : S54)]) ji45) else (none)) else (archivistref10_All.l0 k5 a0 x3_1 ji45)) else (archivistref10_All.l0 k5 a0 x3_1 ji45))) else (none)) else (none)) else (none)) else (archivistref10_All.l2 k5 a0 x3_1 ji27 (wrap64 (x8_5 + 1)) (a0.extract (x4_1 : Int).toNat (x4_5 : Int).toNat) (⟨#[]⟩ : ByteArray))) = some r := H
                      have A48 := Aside0.mk A480
                      clear A480
                      by_cases c49 : t282 = true
                      ·subst c49
                       have H1 : (if 0 ≤ ji27 then (if ji27 ≤ (ji45) then (if (ji45) ≤ (a0.size : Int) then ((archivistref06_Name.f k5 (a0.extract (x4_1 : Int).toNat (x4_5 : Int).toNat)).bind fun t283 => (if t283 = true then (if ((a0.extract (ji27 : Int).toNat ((ji45) : Int).toNat).size : Int) ≤ 256 then (if x3_1.length < 4398046511104 then (archivistref10_All.l0 k5 a0 (x3_1 ++ [(⟨(a0.extract (x4_1 : Int).toNat (x4_5 : Int).toNat), a0.extract (ji27 : Int).toNat ((ji45) : Int).toNat⟩ : S54)]) ji45) else (none)) else (archivistref10_All.l0 k5 a0 x3_1 ji45)) else (archivistref10_All.l0 k5 a0 x3_1 ji45))) else (none)) else (none)) else (none)) = some r := by rw [if_pos rfl] at H; exact H
                       clear H
                       have H := H1
                       clear H1
                       by_cases c50 : 0 ≤ ji27
                       ·rw [if_pos c50] at H
                        have c50b0 := eq_true c50
                        have c50b1 : decide (0 ≤ ji27) = true := decide_eq_true c50
                        clear c50
                        by_cases c51 : ji27 ≤ (ji45)
                        ·rw [if_pos c51] at H
                         have c51b0 := eq_true c51
                         have c51b1 : decide (ji27 ≤ (ji45)) = true := decide_eq_true c51
                         clear c51
                         by_cases c52 : (ji45) ≤ (a0.size : Int)
                         ·rw [if_pos c52] at H
                          have c52b0 := eq_true c52
                          have c52b1 : decide ((ji45) ≤ (a0.size : Int)) = true := decide_eq_true c52
                          clear c52
                          replace H := Option.bind_eq_some_iff.mp H
                          obtain ⟨t283, A530, H⟩ := H
                          replace H : (if t283 = true then (if ((a0.extract (ji27 : Int).toNat ((ji45) : Int).toNat).size : Int) ≤ 256 then (if x3_1.length < 4398046511104 then (archivistref10_All.l0 k5 a0 (x3_1 ++ [(⟨(a0.extract (x4_1 : Int).toNat (x4_5 : Int).toNat), a0.extract (ji27 : Int).toNat ((ji45) : Int).toNat⟩ : S54)]) ji45) else (none)) else (archivistref10_All.l0 k5 a0 x3_1 ji45)) else (archivistref10_All.l0 k5 a0 x3_1 ji45)) = some r := H
                          have A53 := Aside0.mk A530
                          clear A530
                          by_cases c54 : t283 = true
                          ·subst c54
                           have H1 : (if ((a0.extract (ji27 : Int).toNat ((ji45) : Int).toNat).size : Int) ≤ 256 then (if x3_1.length < 4398046511104 then (archivistref10_All.l0 k5 a0 (x3_1 ++ [(⟨(a0.extract (x4_1 : Int).toNat (x4_5 : Int).toNat), a0.extract (ji27 : Int).toNat ((ji45) : Int).toNat⟩ : S54)]) ji45) else (none)) else (archivistref10_All.l0 k5 a0 x3_1 ji45)) = some r := by rw [if_pos rfl] at H; exact H
                           clear H
                           have H := H1
                           clear H1
                           by_cases c55 : ((a0.extract (ji27 : Int).toNat ((ji45) : Int).toNat).size : Int) ≤ 256
                           ·rw [if_pos c55] at H
                            have c55b0 := decide_eq_true c55
                            have c55b1 : decide ((a0.extract (ji27 : Int).toNat ((ji45) : Int).toNat).size ≤ 256) = true := decide_eq_true (by omega)
                            have hle_ : (ji45 : Int) ≤ (a0.size : Int) := by first | (exact of_decide_eq_true (by with_reducible assumption)) | (exact of_eq_true (by with_reducible assumption))
                            have hsz_ : (a0.extract (ji27 : Int).toNat (ji45 : Int).toNat).size = (ji45 : Int).toNat - (ji27 : Int).toNat := by rw [ByteArray.size_extract]; omega
                            have c55b2 : (256 < ((((ji45 : Int).toNat - (ji27 : Int).toNat : Nat)) : Int)) = False := eq_false (by rw [← hsz_]; omega)
                            have c55b3 : decide (((((ji45 : Int).toNat - (ji27 : Int).toNat : Nat)) : Int) ≤ 256) = true := decide_eq_true (by rw [← hsz_]; omega)
                            have c55b4 : (((((ji45 : Int).toNat - (ji27 : Int).toNat : Nat)) : Int) ≤ 256) = True := eq_true (by rw [← hsz_]; omega)
                            clear hle_ hsz_
                            clear c55
                            by_cases c56 : x3_1.length < 4398046511104
                            ·rw [if_pos c56] at H
                             have LMc56 := Aside0.mk c56
                             clear c56
                             obtain ⟨y284, hy284⟩ : ∃ y_ : List (S54), y_ = (x3_1 ++ [(⟨(a0.extract (x4_1 : Int).toNat (x4_5 : Int).toNat), a0.extract (ji27 : Int).toNat ((ji45) : Int).toNat⟩ : S54)]) := ⟨_, rfl⟩
                             replace H : (archivistref10_All.l0 k5 a0 y284 ji45) = some r := by first | (rw [hy284]; with_reducible exact H) | (have H2_ := (Option.bind_some _ _).symm.trans H; rw [hy284]; with_reducible exact H2_) | (have H2_ := (Option.bind_some _ _).symm.trans H; with_reducible exact H2_) | with_reducible exact H | (rw [hy284]; exact H) | exact H
                             have Ny284 := Aside0.mk hy284
                             clear hy284
                             have H' := Aside0.mk H
                             clear H
                             have p47 : 0 ≤ ((ji45) : Int) := od
                             have q47 : (ji45) < (a0.size : Int) := od
                             have hx47 := bt_at a0 (ji45)
                             replace p47 := eq_true p47
                             replace q47 := eq_true q47
                             go_wp2_with (first | (go_at_call 26; (with_reducible refine (archivistref10_space.calls (bt a0 (ji45)) true _ A48.out).mono ?_); rintro e w' ⟨rfl, ⟨nd, rfl⟩⟩; (try (rw [drewN_self wr]; generalize hq_ : World.drewN wr _ = wr; have n0_ : Aside0 (Kd.R k54 54 wr w.heap.size (fun k_ => k_ ≠ gb274) u3 x3_1) := ⟨by rw [← hq_]; exact (rz HO_3.out)⟩; have n1_ : Aside0 (wr.heap[gb274]? = some (.cells #[.string (a0.extract (x4_1 : Int).toNat (x4_5 : Int).toNat), .string (⟨#[]⟩ : ByteArray)] 54 (0, 0))) := ⟨by rw [← hq_]; exact (bz BK274.out)⟩; have n2_ : Aside0 (Below w.heap.size w wr) := ⟨by rw [← hq_]; exact (by repeat (first | (with_reducible first | exact HB.out | apply below_alloc | apply pw_below_drewN | apply below_drew1 | refine below_set ?_ GE274.out) | exact HB.out))⟩; clear HO_3 BK274 HB hq_; have HO_3 := n0_; have BK274 := n1_; have HB := n2_; clear n0_ n1_ n2_)); have hcz57_0 : wr.cell? ⟨gb274, 0, none⟩ = some (.string (a0.extract (x4_1 : Int).toNat (x4_5 : Int).toNat)) := (blk_cell BK274.out 0).trans rfl; have hcz57_1 : wr.cell? ⟨gb274, 1, none⟩ = some (.string (⟨#[]⟩ : ByteArray)) := (blk_cell BK274.out 1).trans rfl; have hfz57_0 := blk_frozen BK274.out 0; have hfz57_1 := blk_frozen BK274.out 1) | ((with_reducible refine gate_callee (f := 28) rfl ?_); refine goesL_ (some 107) rfl rfl Try.func28 (by kernel_rfl) rfl #[.string (a0.extract (x4_1 : Int).toNat (x4_5 : Int).toNat)] rfl ml ?_; (with_reducible refine (archivistref06_Name.calls k5 (a0.extract (x4_1 : Int).toNat (x4_5 : Int).toNat) true _ A53.out).mono ?_); rintro e w' ⟨rfl, ⟨nd, rfl⟩⟩; refine ⟨_, rfl, ?_⟩) | ((with_reducible refine gate_builtin (b := .append) (xs := #[.tmp 114, .tmp 116]) rfl ?_); (try (refine gate_guard (by rfl) ?_; dsimp only)); at_builtin; refine Kd.R_append k54 (w0 := w) w.heap.size rfl (.tmp 114) (.tmp 116) 30 54 (.agg #[(.string ⟨#[]⟩), (.string ⟨#[]⟩)]) 32 rfl Try.underlying30 info54 rfl (by decide) (by omega) u3 x3_1 (⟨(a0.extract (x4_1 : Int).toNat (x4_5 : Int).toNat), a0.extract (ji27 : Int).toNat ((ji45) : Int).toNat⟩ : S54) [.string (a0.extract (x4_1 : Int).toNat (x4_5 : Int).toNat), .string (a0.extract (ji27 : Int).toNat ((ji45) : Int).toNat)] (fun k_ => k_ ≠ gb274) (fun _ => False) rfl (by first | (go_simp; done) | (go_simp; rfl)) ?aP (fun _ hk => hk.elim) ?aF ?aO ?aB ?aS ?aL ?_; (case aP => exact k54_mkM _ _ _ (⟨(a0.extract (x4_1 : Int).toNat (x4_5 : Int).toNat), a0.extract (ji27 : Int).toNat ((ji45) : Int).toNat⟩ : S54)); (case aB => exact (by repeat (first | (with_reducible first | exact HB.out | apply below_alloc | apply pw_below_drewN | apply below_drew1 | refine below_set ?_ GE274.out) | exact HB.out))); (case aF => exact (fun k_ hk => Kd.freshB (g := gb274) (o := .cells #[.string (a0.extract (x4_1 : Int).toNat (x4_5 : Int).toNat), .string (a0.extract (ji27 : Int).toNat ((ji45) : Int).toNat)] 54 (0, 0)) (by (with_reducible repeat (first | refine blk_drewN ?_ _ | refine blk_drew ?_ | refine blk_alloc ?_ _)); refine blk_put (cs := #[.string (a0.extract (x4_1 : Int).toNat (x4_5 : Int).toNat), .string (⟨#[]⟩ : ByteArray)]) ?_ 1 _ rfl; (with_reducible repeat (first | refine blk_drewN ?_ _ | refine blk_drew ?_ | refine blk_alloc ?_ _)); exact BK274.out) k_ hk)); (case aO => exact (by (with_reducible repeat (first | apply Kd.R_alloc | apply Kd.R_drewN | apply Kd.R_drew)); exact Kd.R_mono (Kd.R_far (p := ⟨gb274, 1, none⟩) (Kd.R_mono HO_3.out (fun k_ hk => (⟨hk, hk⟩ : _ ∧ k_ ≠ gb274))) (fun _ hk => hk.2) (.string (a0.extract (ji27 : Int).toNat ((ji45) : Int).toNat))) (fun _ hk => hk.1))); (case aS => exact (below_size (by repeat (first | (with_reducible first | exact HB.out | apply below_alloc | apply pw_below_drewN | apply below_drew1 | refine below_set ?_ GE274.out) | exact HB.out)))); (case aL => have := LMc56.out; omega); intro v285 w58 ho hb hg hat; rw [← Ny284.out] at ho; have n0_ := Aside0.mk (blk_grown (g := gb274) (o := .cells #[.string (a0.extract (x4_1 : Int).toNat (x4_5 : Int).toNat), .string (a0.extract (ji27 : Int).toNat ((ji45) : Int).toNat)] 54 (0, 0)) (by (with_reducible repeat (first | refine blk_drewN ?_ _ | refine blk_drew ?_ | refine blk_alloc ?_ _)); refine blk_put (cs := #[.string (a0.extract (x4_1 : Int).toNat (x4_5 : Int).toNat), .string (⟨#[]⟩ : ByteArray)]) ?_ 1 _ rfl; (with_reducible repeat (first | refine blk_drewN ?_ _ | refine blk_drew ?_ | refine blk_alloc ?_ _)); exact BK274.out) hg (Kd.R_away HO_3.out (fun _ hk => hk))); have n1_ := Aside0.mk (hb); have n2_ := Aside0.mk (ho); clear BK274; clear HB; clear HO_3; have BK274 := n0_; have HB := n1_; have HO286 := n2_; clear n0_ n1_ n2_; clear ho hb hg hat))
                             go_roundg k5
                             case measure => have := HK1.out; have := HJ1.out; have := HJ5.out; have := HJ19.out; have := HK5.out; omega
                             case rel => exact ⟨(y284), (ji45), (by first | rfl | (simp; done) | (simp only [← hji45] <;> (first | rfl | simp)) | (simp [*]; done)), H', ⟨by have := HK1.out; have := HJ1.out; have := HJ5.out; have := HJ19.out; have := HK5.out; omega⟩, ⟨by (with_reducible repeat (first | apply Kd.R_alloc | apply Kd.R_drewN | apply Kd.R_drew)); exact Kd.R_mono HO286.out (fun _ hk => trivial)⟩, ⟨by repeat (first | (with_reducible first | exact HB.out | apply below_alloc | apply pw_below_drewN | apply below_drew1 | refine below_set ?_ GE274.out) | exact HB.out)⟩⟩
                            ·rw [if_neg c56] at H
                             exact absurd H (by simp)
                           ·rw [if_neg c55] at H
                            have c55b0 : decide (((a0.extract (ji27 : Int).toNat ((ji45) : Int).toNat).size : Int) ≤ 256) = false := decide_eq_false c55
                            have c55b1 : decide ((a0.extract (ji27 : Int).toNat ((ji45) : Int).toNat).size ≤ 256) = false := decide_eq_false (by omega)
                            have hle_ : (ji45 : Int) ≤ (a0.size : Int) := by first | (exact of_decide_eq_true (by with_reducible assumption)) | (exact of_eq_true (by with_reducible assumption))
                            have hsz_ : (a0.extract (ji27 : Int).toNat (ji45 : Int).toNat).size = (ji45 : Int).toNat - (ji27 : Int).toNat := by rw [ByteArray.size_extract]; omega
                            have c55b2 : (256 < ((((ji45 : Int).toNat - (ji27 : Int).toNat : Nat)) : Int)) = True := eq_true (by rw [← hsz_]; omega)
                            have c55b3 : decide (((((ji45 : Int).toNat - (ji27 : Int).toNat : Nat)) : Int) ≤ 256) = false := decide_eq_false (by rw [← hsz_]; omega)
                            have c55b4 : (((((ji45 : Int).toNat - (ji27 : Int).toNat : Nat)) : Int) ≤ 256) = False := eq_false (by rw [← hsz_]; omega)
                            clear hle_ hsz_
                            clear c55
                            have H' := Aside0.mk H
                            clear H
                            have p47 : 0 ≤ ((ji45) : Int) := od
                            have q47 : (ji45) < (a0.size : Int) := od
                            have hx47 := bt_at a0 (ji45)
                            replace p47 := eq_true p47
                            replace q47 := eq_true q47
                            go_wp2_with (first | (go_at_call 26; (with_reducible refine (archivistref10_space.calls (bt a0 (ji45)) true _ A48.out).mono ?_); rintro e w' ⟨rfl, ⟨nd, rfl⟩⟩; (try (rw [drewN_self wr]; generalize hq_ : World.drewN wr _ = wr; have n0_ : Aside0 (Kd.R k54 54 wr w.heap.size (fun k_ => k_ ≠ gb274) u3 x3_1) := ⟨by rw [← hq_]; exact (rz HO_3.out)⟩; have n1_ : Aside0 (wr.heap[gb274]? = some (.cells #[.string (a0.extract (x4_1 : Int).toNat (x4_5 : Int).toNat), .string (⟨#[]⟩ : ByteArray)] 54 (0, 0))) := ⟨by rw [← hq_]; exact (bz BK274.out)⟩; have n2_ : Aside0 (Below w.heap.size w wr) := ⟨by rw [← hq_]; exact (by repeat (first | (with_reducible first | exact HB.out | apply below_alloc | apply pw_below_drewN | apply below_drew1 | refine below_set ?_ GE274.out) | exact HB.out))⟩; clear HO_3 BK274 HB hq_; have HO_3 := n0_; have BK274 := n1_; have HB := n2_; clear n0_ n1_ n2_)); have hcz59_0 : wr.cell? ⟨gb274, 0, none⟩ = some (.string (a0.extract (x4_1 : Int).toNat (x4_5 : Int).toNat)) := (blk_cell BK274.out 0).trans rfl; have hcz59_1 : wr.cell? ⟨gb274, 1, none⟩ = some (.string (⟨#[]⟩ : ByteArray)) := (blk_cell BK274.out 1).trans rfl; have hfz59_0 := blk_frozen BK274.out 0; have hfz59_1 := blk_frozen BK274.out 1) | ((with_reducible refine gate_callee (f := 28) rfl ?_); refine goesL_ (some 107) rfl rfl Try.func28 (by kernel_rfl) rfl #[.string (a0.extract (x4_1 : Int).toNat (x4_5 : Int).toNat)] rfl ml ?_; (with_reducible refine (archivistref06_Name.calls k5 (a0.extract (x4_1 : Int).toNat (x4_5 : Int).toNat) true _ A53.out).mono ?_); rintro e w' ⟨rfl, ⟨nd, rfl⟩⟩; refine ⟨_, rfl, ?_⟩))
                            go_roundg k5
                            case measure => have := HK1.out; have := HJ1.out; have := HJ5.out; have := HJ19.out; have := HK5.out; omega
                            case rel => exact ⟨(x3_1), (ji45), (by first | rfl | (simp; done) | (simp only [← hji45] <;> (first | rfl | simp)) | (simp [*]; done)), H', ⟨by have := HK1.out; have := HJ1.out; have := HJ5.out; have := HJ19.out; have := HK5.out; omega⟩, ⟨by (with_reducible repeat (first | apply Kd.R_alloc | apply Kd.R_drewN | apply Kd.R_drew)); exact Kd.R_mono (Kd.R_far (p := ⟨gb274, 1, none⟩) (Kd.R_mono HO_3.out (fun k_ hk => (⟨hk, hk⟩ : _ ∧ k_ ≠ gb274))) (fun _ hk => hk.2) (.string (a0.extract (ji27 : Int).toNat ((ji45) : Int).toNat))) (fun _ hk => trivial)⟩, ⟨by repeat (first | (with_reducible first | exact HB.out | apply below_alloc | apply pw_below_drewN | apply below_drew1 | refine below_set ?_ GE274.out) | exact HB.out)⟩⟩
                          ·replace c54 := Bool.eq_false_iff.mpr c54
                           subst c54
                           have H1 : (archivistref10_All.l0 k5 a0 x3_1 ji45) = some r := by rw [if_neg (show ¬ (false = true) by decide)] at H; exact H
                           clear H
                           have H := H1
                           clear H1
                           have H' := Aside0.mk H
                           clear H
                           have p47 : 0 ≤ ((ji45) : Int) := od
                           have q47 : (ji45) < (a0.size : Int) := od
                           have hx47 := bt_at a0 (ji45)
                           replace p47 := eq_true p47
                           replace q47 := eq_true q47
                           go_wp2_with (first | (go_at_call 26; (with_reducible refine (archivistref10_space.calls (bt a0 (ji45)) true _ A48.out).mono ?_); rintro e w' ⟨rfl, ⟨nd, rfl⟩⟩; (try (rw [drewN_self wr]; generalize hq_ : World.drewN wr _ = wr; have n0_ : Aside0 (Kd.R k54 54 wr w.heap.size (fun k_ => k_ ≠ gb274) u3 x3_1) := ⟨by rw [← hq_]; exact (rz HO_3.out)⟩; have n1_ : Aside0 (wr.heap[gb274]? = some (.cells #[.string (a0.extract (x4_1 : Int).toNat (x4_5 : Int).toNat), .string (⟨#[]⟩ : ByteArray)] 54 (0, 0))) := ⟨by rw [← hq_]; exact (bz BK274.out)⟩; have n2_ : Aside0 (Below w.heap.size w wr) := ⟨by rw [← hq_]; exact (by repeat (first | (with_reducible first | exact HB.out | apply below_alloc | apply pw_below_drewN | apply below_drew1 | refine below_set ?_ GE274.out) | exact HB.out))⟩; clear HO_3 BK274 HB hq_; have HO_3 := n0_; have BK274 := n1_; have HB := n2_; clear n0_ n1_ n2_)); have hcz60_0 : wr.cell? ⟨gb274, 0, none⟩ = some (.string (a0.extract (x4_1 : Int).toNat (x4_5 : Int).toNat)) := (blk_cell BK274.out 0).trans rfl; have hcz60_1 : wr.cell? ⟨gb274, 1, none⟩ = some (.string (⟨#[]⟩ : ByteArray)) := (blk_cell BK274.out 1).trans rfl; have hfz60_0 := blk_frozen BK274.out 0; have hfz60_1 := blk_frozen BK274.out 1) | ((with_reducible refine gate_callee (f := 28) rfl ?_); refine goesL_ (some 107) rfl rfl Try.func28 (by kernel_rfl) rfl #[.string (a0.extract (x4_1 : Int).toNat (x4_5 : Int).toNat)] rfl ml ?_; (with_reducible refine (archivistref06_Name.calls k5 (a0.extract (x4_1 : Int).toNat (x4_5 : Int).toNat) false _ A53.out).mono ?_); rintro e w' ⟨rfl, ⟨nd, rfl⟩⟩; refine ⟨_, rfl, ?_⟩))
                           go_roundg k5
                           case measure => have := HK1.out; have := HJ1.out; have := HJ5.out; have := HJ19.out; have := HK5.out; omega
                           case rel => exact ⟨(x3_1), (ji45), (by first | rfl | (simp; done) | (simp only [← hji45] <;> (first | rfl | simp)) | (simp [*]; done)), H', ⟨by have := HK1.out; have := HJ1.out; have := HJ5.out; have := HJ19.out; have := HK5.out; omega⟩, ⟨by (with_reducible repeat (first | apply Kd.R_alloc | apply Kd.R_drewN | apply Kd.R_drew)); exact Kd.R_mono (Kd.R_far (p := ⟨gb274, 1, none⟩) (Kd.R_mono HO_3.out (fun k_ hk => (⟨hk, hk⟩ : _ ∧ k_ ≠ gb274))) (fun _ hk => hk.2) (.string (a0.extract (ji27 : Int).toNat ((ji45) : Int).toNat))) (fun _ hk => trivial)⟩, ⟨by repeat (first | (with_reducible first | exact HB.out | apply below_alloc | apply pw_below_drewN | apply below_drew1 | refine below_set ?_ GE274.out) | exact HB.out)⟩⟩
                         ·rw [if_neg c52] at H
                          exact absurd H (by simp)
                        ·rw [if_neg c51] at H
                         exact absurd H (by simp)
                       ·rw [if_neg c50] at H
                        exact absurd H (by simp)
                      ·replace c49 := Bool.eq_false_iff.mpr c49
                       subst c49
                       have H1 : (archivistref10_All.l2 k5 a0 x3_1 ji27 (wrap64 (x8_5 + 1)) (a0.extract (x4_1 : Int).toNat (x4_5 : Int).toNat) (⟨#[]⟩ : ByteArray)) = some r := by rw [if_neg (show ¬ (false = true) by decide)] at H; exact H
                       clear H
                       have H := H1
                       clear H1
                       have H' := Aside0.mk H
                       clear H
                       have p47 : 0 ≤ ((ji45) : Int) := od
                       have q47 : (ji45) < (a0.size : Int) := od
                       have hx47 := bt_at a0 (ji45)
                       replace p47 := eq_true p47
                       replace q47 := eq_true q47
                       go_wp2_with (first | (go_at_call 26; (with_reducible refine (archivistref10_space.calls (bt a0 (ji45)) false _ A48.out).mono ?_); rintro e w' ⟨rfl, ⟨nd, rfl⟩⟩))
                       go_roundg k5
                       case measure => have := HK1.out; have := HJ1.out; have := HJ5.out; have := HJ19.out; have := HK5.out; omega
                       case rel => exact ⟨(wrap64 (x8_5 + 1)), rs, H', ⟨by have := HK1.out; have := HJ1.out; have := HJ5.out; have := HJ19.out; have := HK5.out; omega⟩, ⟨rz HO_3.out⟩, ⟨bz BK274.out⟩, ⟨by repeat (first | (with_reducible first | exact HB.out | apply below_alloc | apply pw_below_drewN | apply below_drew1 | refine below_set ?_ GE274.out) | exact HB.out)⟩⟩
                     ·rw [if_neg c46] at H
                      exact absurd H (by simp)
                    ·rw [if_neg c44] at H
                     have c44b0 : decide ((wrap64 (ji27 + x8_5)) < (a0.size : Int)) = false := decide_eq_false c44
                     clear c44
                     by_cases c61 : 0 ≤ ji27
                     ·rw [if_pos c61] at H
                      have c61b0 := eq_true c61
                      have c61b1 : decide (0 ≤ ji27) = true := decide_eq_true c61
                      clear c61
                      by_cases c62 : ji27 ≤ (wrap64 (ji27 + x8_5))
                      ·rw [if_pos c62] at H
                       have c62b0 := eq_true c62
                       have c62b1 : decide (ji27 ≤ (wrap64 (ji27 + x8_5))) = true := decide_eq_true c62
                       by_cases c63 : (wrap64 (ji27 + x8_5)) ≤ (a0.size : Int)
                       ·rw [if_pos c63] at H
                        have c63b0 := eq_true c63
                        have c63b1 : decide ((wrap64 (ji27 + x8_5)) ≤ (a0.size : Int)) = true := decide_eq_true c63
                        replace H := Option.bind_eq_some_iff.mp H
                        obtain ⟨t287, A640, H⟩ := H
                        replace H : (if t287 = true then (if ((a0.extract (ji27 : Int).toNat ((wrap64 (ji27 + x8_5)) : Int).toNat).size : Int) ≤ 256 then (if x3_1.length < 4398046511104 then (archivistref10_All.l0 k5 a0 (x3_1 ++ [(⟨(a0.extract (x4_1 : Int).toNat (x4_5 : Int).toNat), a0.extract (ji27 : Int).toNat ((wrap64 (ji27 + x8_5)) : Int).toNat⟩ : S54)]) (wrap64 (ji27 + x8_5))) else (none)) else (archivistref10_All.l0 k5 a0 x3_1 (wrap64 (ji27 + x8_5)))) else (archivistref10_All.l0 k5 a0 x3_1 (wrap64 (ji27 + x8_5)))) = some r := H
                        have A64 := Aside0.mk A640
                        clear A640
                        by_cases c65 : t287 = true
                        ·subst c65
                         have H1 : (if ((a0.extract (ji27 : Int).toNat ((wrap64 (ji27 + x8_5)) : Int).toNat).size : Int) ≤ 256 then (if x3_1.length < 4398046511104 then (archivistref10_All.l0 k5 a0 (x3_1 ++ [(⟨(a0.extract (x4_1 : Int).toNat (x4_5 : Int).toNat), a0.extract (ji27 : Int).toNat ((wrap64 (ji27 + x8_5)) : Int).toNat⟩ : S54)]) (wrap64 (ji27 + x8_5))) else (none)) else (archivistref10_All.l0 k5 a0 x3_1 (wrap64 (ji27 + x8_5)))) = some r := by rw [if_pos rfl] at H; exact H
                         clear H
                         have H := H1
                         clear H1
                         by_cases c66 : ((a0.extract (ji27 : Int).toNat ((wrap64 (ji27 + x8_5)) : Int).toNat).size : Int) ≤ 256
                         ·rw [if_pos c66] at H
                          have c66b0 := decide_eq_true c66
                          have c66b1 : decide ((a0.extract (ji27 : Int).toNat ((wrap64 (ji27 + x8_5)) : Int).toNat).size ≤ 256) = true := decide_eq_true (by omega)
                          have hle_ : (wrap64 (ji27 + x8_5) : Int) ≤ (a0.size : Int) := by first | (exact of_decide_eq_true (by with_reducible assumption)) | (exact of_eq_true (by with_reducible assumption))
                          have hsz_ : (a0.extract (ji27 : Int).toNat (wrap64 (ji27 + x8_5) : Int).toNat).size = (wrap64 (ji27 + x8_5) : Int).toNat - (ji27 : Int).toNat := by rw [ByteArray.size_extract]; omega
                          have c66b2 : (256 < ((((wrap64 (ji27 + x8_5) : Int).toNat - (ji27 : Int).toNat : Nat)) : Int)) = False := eq_false (by rw [← hsz_]; omega)
                          have c66b3 : decide (((((wrap64 (ji27 + x8_5) : Int).toNat - (ji27 : Int).toNat : Nat)) : Int) ≤ 256) = true := decide_eq_true (by rw [← hsz_]; omega)
                          have c66b4 : (((((wrap64 (ji27 + x8_5) : Int).toNat - (ji27 : Int).toNat : Nat)) : Int) ≤ 256) = True := eq_true (by rw [← hsz_]; omega)
                          clear hle_ hsz_
                          clear c66
                          by_cases c67 : x3_1.length < 4398046511104
                          ·rw [if_pos c67] at H
                           have LMc67 := Aside0.mk c67
                           clear c67
                           obtain ⟨y288, hy288⟩ : ∃ y_ : List (S54), y_ = (x3_1 ++ [(⟨(a0.extract (x4_1 : Int).toNat (x4_5 : Int).toNat), a0.extract (ji27 : Int).toNat ((wrap64 (ji27 + x8_5)) : Int).toNat⟩ : S54)]) := ⟨_, rfl⟩
                           replace H : (archivistref10_All.l0 k5 a0 y288 (wrap64 (ji27 + x8_5))) = some r := by first | (rw [hy288]; with_reducible exact H) | (have H2_ := (Option.bind_some _ _).symm.trans H; rw [hy288]; with_reducible exact H2_) | (have H2_ := (Option.bind_some _ _).symm.trans H; with_reducible exact H2_) | with_reducible exact H | (rw [hy288]; exact H) | exact H
                           have Ny288 := Aside0.mk hy288
                           clear hy288
                           have H' := Aside0.mk H
                           clear H
                           have hcz68_0 : wr.cell? ⟨gb274, 0, none⟩ = some (.string (a0.extract (x4_1 : Int).toNat (x4_5 : Int).toNat)) := (blk_cell BK274.out 0).trans rfl
                           have hcz68_1 : wr.cell? ⟨gb274, 1, none⟩ = some (.string (⟨#[]⟩ : ByteArray)) := (blk_cell BK274.out 1).trans rfl
                           have hfz68_0 := blk_frozen BK274.out 0
                           have hfz68_1 := blk_frozen BK274.out 1
                           go_wp2_with (first | ((with_reducible refine gate_callee (f := 28) rfl ?_); refine goesL_ (some 107) rfl rfl Try.func28 (by kernel_rfl) rfl #[.string (a0.extract (x4_1 : Int).toNat (x4_5 : Int).toNat)] rfl ml ?_; (with_reducible refine (archivistref06_Name.calls k5 (a0.extract (x4_1 : Int).toNat (x4_5 : Int).toNat) true _ A64.out).mono ?_); rintro e w' ⟨rfl, ⟨nd, rfl⟩⟩; refine ⟨_, rfl, ?_⟩) | ((with_reducible refine gate_builtin (b := .append) (xs := #[.tmp 114, .tmp 116]) rfl ?_); (try (refine gate_guard (by rfl) ?_; dsimp only)); at_builtin; refine Kd.R_append k54 (w0 := w) w.heap.size rfl (.tmp 114) (.tmp 116) 30 54 (.agg #[(.string ⟨#[]⟩), (.string ⟨#[]⟩)]) 32 rfl Try.underlying30 info54 rfl (by decide) (by omega) u3 x3_1 (⟨(a0.extract (x4_1 : Int).toNat (x4_5 : Int).toNat), a0.extract (ji27 : Int).toNat ((wrap64 (ji27 + x8_5)) : Int).toNat⟩ : S54) [.string (a0.extract (x4_1 : Int).toNat (x4_5 : Int).toNat), .string (a0.extract (ji27 : Int).toNat ((wrap64 (ji27 + x8_5)) : Int).toNat)] (fun k_ => k_ ≠ gb274) (fun _ => False) rfl (by first | (go_simp; done) | (go_simp; rfl)) ?aP (fun _ hk => hk.elim) ?aF ?aO ?aB ?aS ?aL ?_; (case aP => exact k54_mkM _ _ _ (⟨(a0.extract (x4_1 : Int).toNat (x4_5 : Int).toNat), a0.extract (ji27 : Int).toNat ((wrap64 (ji27 + x8_5)) : Int).toNat⟩ : S54)); (case aB => exact (by repeat (first | (with_reducible first | exact HB.out | apply below_alloc | apply pw_below_drewN | apply below_drew1 | refine below_set ?_ GE274.out) | exact HB.out))); (case aF => exact (fun k_ hk => Kd.freshB (g := gb274) (o := .cells #[.string (a0.extract (x4_1 : Int).toNat (x4_5 : Int).toNat), .string (a0.extract (ji27 : Int).toNat ((wrap64 (ji27 + x8_5)) : Int).toNat)] 54 (0, 0)) (by (with_reducible repeat (first | refine blk_drewN ?_ _ | refine blk_drew ?_ | refine blk_alloc ?_ _)); refine blk_put (cs := #[.string (a0.extract (x4_1 : Int).toNat (x4_5 : Int).toNat), .string (⟨#[]⟩ : ByteArray)]) ?_ 1 _ rfl; (with_reducible repeat (first | refine blk_drewN ?_ _ | refine blk_drew ?_ | refine blk_alloc ?_ _)); exact BK274.out) k_ hk)); (case aO => exact (by (with_reducible repeat (first | apply Kd.R_alloc | apply Kd.R_drewN | apply Kd.R_drew)); exact Kd.R_mono (Kd.R_far (p := ⟨gb274, 1, none⟩) (Kd.R_mono HO_3.out (fun k_ hk => (⟨hk, hk⟩ : _ ∧ k_ ≠ gb274))) (fun _ hk => hk.2) (.string (a0.extract (ji27 : Int).toNat ((wrap64 (ji27 + x8_5)) : Int).toNat))) (fun _ hk => hk.1))); (case aS => exact (below_size (by repeat (first | (with_reducible first | exact HB.out | apply below_alloc | apply pw_below_drewN | apply below_drew1 | refine below_set ?_ GE274.out) | exact HB.out)))); (case aL => have := LMc67.out; omega); intro v289 w69 ho hb hg hat; rw [← Ny288.out] at ho; have n0_ := Aside0.mk (blk_grown (g := gb274) (o := .cells #[.string (a0.extract (x4_1 : Int).toNat (x4_5 : Int).toNat), .string (a0.extract (ji27 : Int).toNat ((wrap64 (ji27 + x8_5)) : Int).toNat)] 54 (0, 0)) (by (with_reducible repeat (first | refine blk_drewN ?_ _ | refine blk_drew ?_ | refine blk_alloc ?_ _)); refine blk_put (cs := #[.string (a0.extract (x4_1 : Int).toNat (x4_5 : Int).toNat), .string (⟨#[]⟩ : ByteArray)]) ?_ 1 _ rfl; (with_reducible repeat (first | refine blk_drewN ?_ _ | refine blk_drew ?_ | refine blk_alloc ?_ _)); exact BK274.out) hg (Kd.R_away HO_3.out (fun _ hk => hk))); have n1_ := Aside0.mk (hb); have n2_ := Aside0.mk (ho); clear BK274; clear HB; clear HO_3; have BK274 := n0_; have HB := n1_; have HO290 := n2_; clear n0_ n1_ n2_; clear ho hb hg hat))
                           go_roundg k5
                           case measure => have := HK1.out; have := HJ1.out; have := HJ5.out; have := HJ19.out; have := HK5.out; omega
                           case rel => exact ⟨(y288), (wrap64 (ji27 + x8_5)), (by first | rfl | (simp; done) | (simp only [← hji27] <;> (first | rfl | simp)) | (simp [*]; done)), H', ⟨by have := HK1.out; have := HJ1.out; have := HJ5.out; have := HJ19.out; have := HK5.out; omega⟩, ⟨by (with_reducible repeat (first | apply Kd.R_alloc | apply Kd.R_drewN | apply Kd.R_drew)); exact Kd.R_mono HO290.out (fun _ hk => trivial)⟩, ⟨by repeat (first | (with_reducible first | exact HB.out | apply below_alloc | apply pw_below_drewN | apply below_drew1 | refine below_set ?_ GE274.out) | exact HB.out)⟩⟩
                          ·rw [if_neg c67] at H
                           exact absurd H (by simp)
                         ·rw [if_neg c66] at H
                          have c66b0 : decide (((a0.extract (ji27 : Int).toNat ((wrap64 (ji27 + x8_5)) : Int).toNat).size : Int) ≤ 256) = false := decide_eq_false c66
                          have c66b1 : decide ((a0.extract (ji27 : Int).toNat ((wrap64 (ji27 + x8_5)) : Int).toNat).size ≤ 256) = false := decide_eq_false (by omega)
                          have hle_ : (wrap64 (ji27 + x8_5) : Int) ≤ (a0.size : Int) := by first | (exact of_decide_eq_true (by with_reducible assumption)) | (exact of_eq_true (by with_reducible assumption))
                          have hsz_ : (a0.extract (ji27 : Int).toNat (wrap64 (ji27 + x8_5) : Int).toNat).size = (wrap64 (ji27 + x8_5) : Int).toNat - (ji27 : Int).toNat := by rw [ByteArray.size_extract]; omega
                          have c66b2 : (256 < ((((wrap64 (ji27 + x8_5) : Int).toNat - (ji27 : Int).toNat : Nat)) : Int)) = True := eq_true (by rw [← hsz_]; omega)
                          have c66b3 : decide (((((wrap64 (ji27 + x8_5) : Int).toNat - (ji27 : Int).toNat : Nat)) : Int) ≤ 256) = false := decide_eq_false (by rw [← hsz_]; omega)
                          have c66b4 : (((((wrap64 (ji27 + x8_5) : Int).toNat - (ji27 : Int).toNat : Nat)) : Int) ≤ 256) = False := eq_false (by rw [← hsz_]; omega)
                          clear hle_ hsz_
                          clear c66
                          have H' := Aside0.mk H
                          clear H
                          have hcz70_0 : wr.cell? ⟨gb274, 0, none⟩ = some (.string (a0.extract (x4_1 : Int).toNat (x4_5 : Int).toNat)) := (blk_cell BK274.out 0).trans rfl
                          have hcz70_1 : wr.cell? ⟨gb274, 1, none⟩ = some (.string (⟨#[]⟩ : ByteArray)) := (blk_cell BK274.out 1).trans rfl
                          have hfz70_0 := blk_frozen BK274.out 0
                          have hfz70_1 := blk_frozen BK274.out 1
                          go_wp2_with (first | ((with_reducible refine gate_callee (f := 28) rfl ?_); refine goesL_ (some 107) rfl rfl Try.func28 (by kernel_rfl) rfl #[.string (a0.extract (x4_1 : Int).toNat (x4_5 : Int).toNat)] rfl ml ?_; (with_reducible refine (archivistref06_Name.calls k5 (a0.extract (x4_1 : Int).toNat (x4_5 : Int).toNat) true _ A64.out).mono ?_); rintro e w' ⟨rfl, ⟨nd, rfl⟩⟩; refine ⟨_, rfl, ?_⟩))
                          go_roundg k5
                          case measure => have := HK1.out; have := HJ1.out; have := HJ5.out; have := HJ19.out; have := HK5.out; omega
                          case rel => exact ⟨(x3_1), (wrap64 (ji27 + x8_5)), (by first | rfl | (simp; done) | (simp only [← hji27] <;> (first | rfl | simp)) | (simp [*]; done)), H', ⟨by have := HK1.out; have := HJ1.out; have := HJ5.out; have := HJ19.out; have := HK5.out; omega⟩, ⟨by (with_reducible repeat (first | apply Kd.R_alloc | apply Kd.R_drewN | apply Kd.R_drew)); exact Kd.R_mono (Kd.R_far (p := ⟨gb274, 1, none⟩) (Kd.R_mono HO_3.out (fun k_ hk => (⟨hk, hk⟩ : _ ∧ k_ ≠ gb274))) (fun _ hk => hk.2) (.string (a0.extract (ji27 : Int).toNat ((wrap64 (ji27 + x8_5)) : Int).toNat))) (fun _ hk => trivial)⟩, ⟨by repeat (first | (with_reducible first | exact HB.out | apply below_alloc | apply pw_below_drewN | apply below_drew1 | refine below_set ?_ GE274.out) | exact HB.out)⟩⟩
                        ·replace c65 := Bool.eq_false_iff.mpr c65
                         subst c65
                         have H1 : (archivistref10_All.l0 k5 a0 x3_1 (wrap64 (ji27 + x8_5))) = some r := by rw [if_neg (show ¬ (false = true) by decide)] at H; exact H
                         clear H
                         have H := H1
                         clear H1
                         have H' := Aside0.mk H
                         clear H
                         have hcz71_0 : wr.cell? ⟨gb274, 0, none⟩ = some (.string (a0.extract (x4_1 : Int).toNat (x4_5 : Int).toNat)) := (blk_cell BK274.out 0).trans rfl
                         have hcz71_1 : wr.cell? ⟨gb274, 1, none⟩ = some (.string (⟨#[]⟩ : ByteArray)) := (blk_cell BK274.out 1).trans rfl
                         have hfz71_0 := blk_frozen BK274.out 0
                         have hfz71_1 := blk_frozen BK274.out 1
                         go_wp2_with (first | ((with_reducible refine gate_callee (f := 28) rfl ?_); refine goesL_ (some 107) rfl rfl Try.func28 (by kernel_rfl) rfl #[.string (a0.extract (x4_1 : Int).toNat (x4_5 : Int).toNat)] rfl ml ?_; (with_reducible refine (archivistref06_Name.calls k5 (a0.extract (x4_1 : Int).toNat (x4_5 : Int).toNat) false _ A64.out).mono ?_); rintro e w' ⟨rfl, ⟨nd, rfl⟩⟩; refine ⟨_, rfl, ?_⟩))
                         go_roundg k5
                         case measure => have := HK1.out; have := HJ1.out; have := HJ5.out; have := HJ19.out; have := HK5.out; omega
                         case rel => exact ⟨(x3_1), (wrap64 (ji27 + x8_5)), (by first | rfl | (simp; done) | (simp only [← hji27] <;> (first | rfl | simp)) | (simp [*]; done)), H', ⟨by have := HK1.out; have := HJ1.out; have := HJ5.out; have := HJ19.out; have := HK5.out; omega⟩, ⟨by (with_reducible repeat (first | apply Kd.R_alloc | apply Kd.R_drewN | apply Kd.R_drew)); exact Kd.R_mono (Kd.R_far (p := ⟨gb274, 1, none⟩) (Kd.R_mono HO_3.out (fun k_ hk => (⟨hk, hk⟩ : _ ∧ k_ ≠ gb274))) (fun _ hk => hk.2) (.string (a0.extract (ji27 : Int).toNat ((wrap64 (ji27 + x8_5)) : Int).toNat))) (fun _ hk => trivial)⟩, ⟨by repeat (first | (with_reducible first | exact HB.out | apply below_alloc | apply pw_below_drewN | apply below_drew1 | refine below_set ?_ GE274.out) | exact HB.out)⟩⟩
                       ·rw [if_neg c63] at H
                        exact absurd H (by simp)
                      ·rw [if_neg c62] at H
                       exact absurd H (by simp)
                     ·rw [if_neg c61] at H
                      exact absurd H (by simp)
                ·rw [if_neg c29] at H
                 exact absurd H (by simp)
               ·rw [if_neg c28] at H
                exact absurd H (by simp)
              ·replace c26 := Bool.eq_false_iff.mpr c26
               subst c26
               have H1 : ((archivistref06_Name.f kj19 (a0.extract (x4_1 : Int).toNat (x4_5 : Int).toNat)).bind fun t291 => (if t291 = true then (if ((⟨#[]⟩ : ByteArray).size : Int) ≤ 256 then (if x3_1.length < 4398046511104 then (archivistref10_All.l0 kj19 a0 (x3_1 ++ [(⟨(a0.extract (x4_1 : Int).toNat (x4_5 : Int).toNat), (⟨#[]⟩ : ByteArray)⟩ : S54)]) x4_5) else (none)) else (archivistref10_All.l0 kj19 a0 x3_1 x4_5)) else (archivistref10_All.l0 kj19 a0 x3_1 x4_5))) = some r := by rw [if_neg (show ¬ (false = true) by decide)] at H; exact H
               clear H
               have H := H1
               clear H1
               replace H := Option.bind_eq_some_iff.mp H
               obtain ⟨t291, A720, H⟩ := H
               replace H : (if t291 = true then (if ((⟨#[]⟩ : ByteArray).size : Int) ≤ 256 then (if x3_1.length < 4398046511104 then (archivistref10_All.l0 kj19 a0 (x3_1 ++ [(⟨(a0.extract (x4_1 : Int).toNat (x4_5 : Int).toNat), (⟨#[]⟩ : ByteArray)⟩ : S54)]) x4_5) else (none)) else (archivistref10_All.l0 kj19 a0 x3_1 x4_5)) else (archivistref10_All.l0 kj19 a0 x3_1 x4_5)) = some r := H
               have A72 := Aside0.mk A720
               clear A720
               by_cases c73 : t291 = true
               ·subst c73
                have H1 : (if ((⟨#[]⟩ : ByteArray).size : Int) ≤ 256 then (if x3_1.length < 4398046511104 then (archivistref10_All.l0 kj19 a0 (x3_1 ++ [(⟨(a0.extract (x4_1 : Int).toNat (x4_5 : Int).toNat), (⟨#[]⟩ : ByteArray)⟩ : S54)]) x4_5) else (none)) else (archivistref10_All.l0 kj19 a0 x3_1 x4_5)) = some r := by rw [if_pos rfl] at H; exact H
                clear H
                have H := H1
                clear H1
                by_cases c74 : ((⟨#[]⟩ : ByteArray).size : Int) ≤ 256
                ·rw [if_pos c74] at H
                 have c74b0 := decide_eq_true c74
                 have c74b1 : decide ((⟨#[]⟩ : ByteArray).size ≤ 256) = true := decide_eq_true (by omega)
                 clear c74
                 by_cases c75 : x3_1.length < 4398046511104
                 ·rw [if_pos c75] at H
                  have LMc75 := Aside0.mk c75
                  clear c75
                  obtain ⟨y292, hy292⟩ : ∃ y_ : List (S54), y_ = (x3_1 ++ [(⟨(a0.extract (x4_1 : Int).toNat (x4_5 : Int).toNat), (⟨#[]⟩ : ByteArray)⟩ : S54)]) := ⟨_, rfl⟩
                  replace H : (archivistref10_All.l0 kj19 a0 y292 x4_5) = some r := by first | (rw [hy292]; with_reducible exact H) | (have H2_ := (Option.bind_some _ _).symm.trans H; rw [hy292]; with_reducible exact H2_) | (have H2_ := (Option.bind_some _ _).symm.trans H; with_reducible exact H2_) | with_reducible exact H | (rw [hy292]; exact H) | exact H
                  have Ny292 := Aside0.mk hy292
                  clear hy292
                  have H' := Aside0.mk H
                  clear H
                  have hcz76_0 : wc.cell? ⟨gb274, 0, none⟩ = some (.string (a0.extract (x4_1 : Int).toNat (x4_5 : Int).toNat)) := (blk_cell BK274.out 0).trans rfl
                  have hcz76_1 : wc.cell? ⟨gb274, 1, none⟩ = some (.string (⟨#[]⟩ : ByteArray)) := (blk_cell BK274.out 1).trans rfl
                  have hfz76_0 := blk_frozen BK274.out 0
                  have hfz76_1 := blk_frozen BK274.out 1
                  go_wp2_with (first | ((with_reducible refine gate_callee (f := 28) rfl ?_); refine goesL_ (some 107) rfl rfl Try.func28 (by kernel_rfl) rfl #[.string (a0.extract (x4_1 : Int).toNat (x4_5 : Int).toNat)] rfl ml ?_; (with_reducible refine (archivistref06_Name.calls kj19 (a0.extract (x4_1 : Int).toNat (x4_5 : Int).toNat) true _ A72.out).mono ?_); rintro e w' ⟨rfl, ⟨nd, rfl⟩⟩; refine ⟨_, rfl, ?_⟩) | ((with_reducible refine gate_builtin (b := .append) (xs := #[.tmp 114, .tmp 116]) rfl ?_); (try (refine gate_guard (by rfl) ?_; dsimp only)); at_builtin; refine Kd.R_append k54 (w0 := w) w.heap.size rfl (.tmp 114) (.tmp 116) 30 54 (.agg #[(.string ⟨#[]⟩), (.string ⟨#[]⟩)]) 32 rfl Try.underlying30 info54 rfl (by decide) (by omega) u3 x3_1 (⟨(a0.extract (x4_1 : Int).toNat (x4_5 : Int).toNat), (⟨#[]⟩ : ByteArray)⟩ : S54) [.string (a0.extract (x4_1 : Int).toNat (x4_5 : Int).toNat), .string (⟨#[]⟩ : ByteArray)] (fun k_ => k_ ≠ gb274) (fun _ => False) rfl rfl ?aP (fun _ hk => hk.elim) ?aF ?aO ?aB ?aS ?aL ?_; (case aP => exact k54_mkM _ _ _ (⟨(a0.extract (x4_1 : Int).toNat (x4_5 : Int).toNat), (⟨#[]⟩ : ByteArray)⟩ : S54)); (case aB => exact (by repeat (first | (with_reducible first | exact HB.out | apply below_alloc | apply pw_below_drewN | apply below_drew1 | refine below_set ?_ GE274.out) | exact HB.out))); (case aF => exact (fun k_ hk => Kd.freshB (g := gb274) (o := .cells #[.string (a0.extract (x4_1 : Int).toNat (x4_5 : Int).toNat), .string (⟨#[]⟩ : ByteArray)] 54 (0, 0)) (bz BK274.out) k_ hk)); (case aO => exact (rz HO_3.out)); (case aS => exact (below_size (by repeat (first | (with_reducible first | exact HB.out | apply below_alloc | apply pw_below_drewN | apply below_drew1 | refine below_set ?_ GE274.out) | exact HB.out)))); (case aL => have := LMc75.out; omega); intro v293 w77 ho hb hg hat; rw [← Ny292.out] at ho; have n0_ := Aside0.mk (blk_grown (g := gb274) (o := .cells #[.string (a0.extract (x4_1 : Int).toNat (x4_5 : Int).toNat), .string (⟨#[]⟩ : ByteArray)] 54 (0, 0)) (bz BK274.out) hg (Kd.R_away HO_3.out (fun _ hk => hk))); have n1_ := Aside0.mk (hb); have n2_ := Aside0.mk (ho); clear BK274; clear HB; clear HO_3; have BK274 := n0_; have HB := n1_; have HO294 := n2_; clear n0_ n1_ n2_; clear ho hb hg hat))
                  go_roundg kj19
                  case measure => have := HK1.out; have := HJ1.out; have := HJ5.out; have := HJ19.out; omega
                  case rel => exact ⟨(y292), (x4_5), rs, H', ⟨by have := HK1.out; have := HJ1.out; have := HJ5.out; have := HJ19.out; omega⟩, ⟨by (with_reducible repeat (first | apply Kd.R_alloc | apply Kd.R_drewN | apply Kd.R_drew)); exact Kd.R_mono HO294.out (fun _ hk => trivial)⟩, ⟨by repeat (first | (with_reducible first | exact HB.out | apply below_alloc | apply pw_below_drewN | apply below_drew1 | refine below_set ?_ GE274.out) | exact HB.out)⟩⟩
                 ·rw [if_neg c75] at H
                  exact absurd H (by simp)
                ·rw [if_neg c74] at H
                 exact absurd (show ((⟨#[]⟩ : ByteArray).size : Int) ≤ 256 by decide) c74
               ·replace c73 := Bool.eq_false_iff.mpr c73
                subst c73
                have H1 : (archivistref10_All.l0 kj19 a0 x3_1 x4_5) = some r := by rw [if_neg (show ¬ (false = true) by decide)] at H; exact H
                clear H
                have H := H1
                clear H1
                have H' := Aside0.mk H
                clear H
                have hcz79_0 : wc.cell? ⟨gb274, 0, none⟩ = some (.string (a0.extract (x4_1 : Int).toNat (x4_5 : Int).toNat)) := (blk_cell BK274.out 0).trans rfl
                have hcz79_1 : wc.cell? ⟨gb274, 1, none⟩ = some (.string (⟨#[]⟩ : ByteArray)) := (blk_cell BK274.out 1).trans rfl
                have hfz79_0 := blk_frozen BK274.out 0
                have hfz79_1 := blk_frozen BK274.out 1
                go_wp2_with (first | ((with_reducible refine gate_callee (f := 28) rfl ?_); refine goesL_ (some 107) rfl rfl Try.func28 (by kernel_rfl) rfl #[.string (a0.extract (x4_1 : Int).toNat (x4_5 : Int).toNat)] rfl ml ?_; (with_reducible refine (archivistref06_Name.calls kj19 (a0.extract (x4_1 : Int).toNat (x4_5 : Int).toNat) false _ A72.out).mono ?_); rintro e w' ⟨rfl, ⟨nd, rfl⟩⟩; refine ⟨_, rfl, ?_⟩))
                go_roundg kj19
                case measure => have := HK1.out; have := HJ1.out; have := HJ5.out; have := HJ19.out; omega
                case rel => exact ⟨(x3_1), (x4_5), rs, H', ⟨by have := HK1.out; have := HJ1.out; have := HJ5.out; have := HJ19.out; omega⟩, ⟨by (with_reducible repeat (first | apply Kd.R_alloc | apply Kd.R_drewN | apply Kd.R_drew)); exact Kd.R_mono HO_3.out (fun _ hk => trivial)⟩, ⟨by repeat (first | (with_reducible first | exact HB.out | apply below_alloc | apply pw_below_drewN | apply below_drew1 | refine below_set ?_ GE274.out) | exact HB.out)⟩⟩
           ·rw [if_neg c19] at H
            exact absurd H (by simp)
          ·rw [if_neg c18] at H
           exact absurd H (by simp)
         ·rw [if_neg c17] at H
          exact absurd H (by simp)
     ·replace c5 := Bool.eq_false_iff.mpr c5
      subst c5
      have H1 : (some x3_1) = some r := by rw [if_neg (show ¬ (false = true) by decide)] at H; exact H
      clear H
      have H := H1
      clear H1
      obtain rfl := Option.some.inj H
      go_wp2
      go_ret
      exact ⟨_, by first | rfl | (simp [errW_none, errW_some] <;> rfl) | (simp [*, errW_none, errW_some] <;> rfl), by (with_reducible repeat (first | apply Kd.R_alloc | apply Kd.R_drewN | apply Kd.R_drew)); exact HO_3.out, bl⟩

end Go.Proofs.Ytielpefbgdilaaa.X
