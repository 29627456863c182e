-- Laid by xprint.py, a program of this session's, out of the translation.
import Derived.Test.YtbkhgldinmabiaaX0
import Derived.Test.YtbkhgldinmabiaaX3
import Derived.Test.YtbkhgldinmabiaaX6
import Derived.Test.YtbkhgldinmabiaaX7
import Derived.Test.YtbkhgldinmabiaaX9
import Derived.Test.YtbkhgldinmabiaaX10
import Derived.Test.YtbkhgldinmabiaaX11
import Derived.Test.YtbkhgldinmabiaaX13
namespace Go.Proofs.Ytbkhgldinmabiaa.X
open Go.RowKit Go.Proofs.YtbkhgldinmabiaaW.PrintWords Go.Proofs.YtbkhgldinmabiaaW.PrintLast Go.Proofs.YtbkhgldinmabiaaW.PrintMore
attribute [local go_sem] max2_int min2_int max_two min_two max_three min_three max_four min_four x_isSome x_str_gtr x_str_leq x_str_geq   -- for this text's walks alone
set_option linter.unusedVariables false
set_option linter.unusedSimpArgs false

/-! ### label_Parse: function 35 -/
mutual
def label_Parse.l0 : Nat → ByteArray → List (S29) → Bool → ByteArray → Option ((List (S29)) × Int × Bool)
 | 0, _, _, _, _ => none
 | k + 1, x0, x2, x4, x5 => if x4 = true then (label_Parse.j1 k x0 x2 x5 (decide ((x2.length : Int) ≤ 16))) else (label_Parse.j1 k x0 x2 x5 false)
def label_Parse.j1 : Nat → ByteArray → List (S29) → ByteArray → Bool → Option ((List (S29)) × Int × Bool)
 | 0, _, _, _, _ => none
 | k + 1, x0, x2, x5, x25 => if x25 = true then ((quote_Cut.f k x5 (([(⟨#[61]⟩ : ByteArray)] : List ByteArray))).bind fun bt246 => ((quote_Get.f k bt246.2.2).bind fun bt249 => (if bt246.2.1.toList = ([] : List UInt8) then (label_Parse.j2 k x0 x2 bt246.1 bt246.2.2 bt249.1 bt249.2.1 true) else (if bt249.2.2 = true then (label_Parse.j2 k x0 x2 bt246.1 bt246.2.2 bt249.1 bt249.2.1 (decide (bt249.2.1 ≥ (bt246.2.2.size : Int)))) else (label_Parse.j2 k x0 x2 bt246.1 bt246.2.2 bt249.1 bt249.2.1 true))))) else (some (([] : List (S29)), 0, false))
def label_Parse.j2 : Nat → ByteArray → List (S29) → ByteArray → ByteArray → ByteArray → Int → Bool → Option ((List (S29)) × Int × Bool)
 | 0, _, _, _, _, _, _, _ => none
 | k + 1, x0, x2, x6, x8, x9, x10, x50 => if x50 = true then (some (([] : List (S29)), 0, false)) else (if x2.length < 4398046511104 then ((some (x2 ++ [(⟨x6, x9⟩ : S29)] : List (S29))).bind fun y252 => (if 0 ≤ x10 then (if x10 < (x8.size : Int) then (if 0 ≤ (wrap64 (x10 + 1)) then (if (wrap64 (x10 + 1)) ≤ (x8.size : Int) then (if (bt x8 x10) = 125 then ((label_Right.f k y252).bind fun t255 => (if t255 = true then (some (y252, wrap64 ((x0.size : Int) - ((x8.extract ((wrap64 (x10 + 1)) : Int).toNat x8.size).size : Int)), true)) else (some (([] : List (S29)), 0, false)))) else (label_Parse.l0 k x0 y252 ((bt x8 x10) == 44) (x8.extract ((wrap64 (x10 + 1)) : Int).toNat x8.size))) else (none)) else (none)) else (none)) else (none))) else (none))
end
def label_Parse.f (k : Nat) (a0 : ByteArray) : Option ((List (S29)) × Int × Bool) := (strings_HasPrefix.f a0 (⟨#[123, 125]⟩ : ByteArray)).bind fun t240 => (if t240 = true then (some (([] : List (S29)), 2, true)) else ((strings_CutPrefix.f a0 (⟨#[123]⟩ : ByteArray)).bind fun bt241 => (label_Parse.l0 k a0 ([] : List (S29)) bt241.2 bt241.1)))
theorem label_Parse.mono_l : ∀ k, (∀ y0 y1 y2 y3, LeO (label_Parse.l0 k y0 y1 y2 y3) (label_Parse.l0 (k + 1) y0 y1 y2 y3)) ∧ (∀ y0 y1 y2 y3, LeO (label_Parse.j1 k y0 y1 y2 y3) (label_Parse.j1 (k + 1) y0 y1 y2 y3)) ∧ (∀ y0 y1 y2 y3 y4 y5 y6, LeO (label_Parse.j2 k y0 y1 y2 y3 y4 y5 y6) (label_Parse.j2 (k + 1) y0 y1 y2 y3 y4 y5 y6))
 | 0 => ⟨fun _ _ _ _ r h => by simp [label_Parse.l0] at h, fun _ _ _ _ r h => by simp [label_Parse.j1] at h, fun _ _ _ _ _ _ _ r h => by simp [label_Parse.j2] at h⟩
 | k + 1 => by
  obtain ⟨ih0, ih1, ih2⟩ := label_Parse.mono_l k
  refine ⟨?_, ?_, ?_⟩
  ·intro y0 y1 y2 y3
   unfold label_Parse.l0
   repeat' first
   | (with_reducible exact ih0 _ _ _ _)
   | (with_reducible exact ih1 _ _ _ _)
   | (with_reducible exact ih2 _ _ _ _ _ _ _)
   | (with_reducible exact label_Right.mono _ _)
   | (with_reducible exact quote_Cut.mono _ _ _)
   | (with_reducible exact quote_Get.mono _ _)
   | (with_reducible exact LeO.refl _)
   | (with_reducible exact LeO.none _)
   | (with_reducible refine LeO.ite ?_ ?_)
   | (with_reducible refine LeO.bind ?_ (fun _ => ?_))
   | exact ih0 _ _ _ _
   | exact ih1 _ _ _ _
   | exact ih2 _ _ _ _ _ _ _
   | exact label_Right.mono _ _
   | exact quote_Cut.mono _ _ _
   | exact quote_Get.mono _ _
   | exact LeO.none _
   | refine LeO.ite ?_ ?_
   | refine LeO.bind ?_ (fun _ => ?_)
  ·intro y0 y1 y2 y3
   unfold label_Parse.j1
   repeat' first
   | (with_reducible exact ih0 _ _ _ _)
   | (with_reducible exact ih1 _ _ _ _)
   | (with_reducible exact ih2 _ _ _ _ _ _ _)
   | (with_reducible exact label_Right.mono _ _)
   | (with_reducible exact quote_Cut.mono _ _ _)
   | (with_reducible exact quote_Get.mono _ _)
   | (with_reducible exact LeO.refl _)
   | (with_reducible exact LeO.none _)
   | (with_reducible refine LeO.ite ?_ ?_)
   | (with_reducible refine LeO.bind ?_ (fun _ => ?_))
   | exact ih0 _ _ _ _
   | exact ih1 _ _ _ _
   | exact ih2 _ _ _ _ _ _ _
   | exact label_Right.mono _ _
   | exact quote_Cut.mono _ _ _
   | exact quote_Get.mono _ _
   | exact LeO.none _
   | refine LeO.ite ?_ ?_
   | refine LeO.bind ?_ (fun _ => ?_)
  ·intro y0 y1 y2 y3 y4 y5 y6
   unfold label_Parse.j2
   repeat' first
   | (with_reducible exact ih0 _ _ _ _)
   | (with_reducible exact ih1 _ _ _ _)
   | (with_reducible exact ih2 _ _ _ _ _ _ _)
   | (with_reducible exact label_Right.mono _ _)
   | (with_reducible exact quote_Cut.mono _ _ _)
   | (with_reducible exact quote_Get.mono _ _)
   | (with_reducible exact LeO.refl _)
   | (with_reducible exact LeO.none _)
   | (with_reducible refine LeO.ite ?_ ?_)
   | (with_reducible refine LeO.bind ?_ (fun _ => ?_))
   | exact ih0 _ _ _ _
   | exact ih1 _ _ _ _
   | exact ih2 _ _ _ _ _ _ _
   | exact label_Right.mono _ _
   | exact quote_Cut.mono _ _ _
   | exact quote_Get.mono _ _
   | exact LeO.none _
   | refine LeO.ite ?_ ?_
   | refine LeO.bind ?_ (fun _ => ?_)
theorem label_Parse.mono : ∀ a0 k, LeO (label_Parse.f k a0) (label_Parse.f (k + 1) a0) := by
 intro a0 k
 obtain ⟨ih0, ih1, ih2⟩ := label_Parse.mono_l k
 unfold label_Parse.f
 repeat' first
   | (with_reducible exact ih0 _ _ _ _)
   | (with_reducible exact ih1 _ _ _ _)
   | (with_reducible exact ih2 _ _ _ _ _ _ _)
   | (with_reducible exact label_Right.mono _ _)
   | (with_reducible exact quote_Cut.mono _ _ _)
   | (with_reducible exact quote_Get.mono _ _)
   | (with_reducible exact LeO.refl _)
   | (with_reducible exact LeO.none _)
   | (with_reducible refine LeO.ite ?_ ?_)
   | (with_reducible refine LeO.bind ?_ (fun _ => ?_))
   | exact ih0 _ _ _ _
   | exact ih1 _ _ _ _
   | exact ih2 _ _ _ _ _ _ _
   | exact label_Right.mono _ _
   | exact quote_Cut.mono _ _ _
   | exact quote_Get.mono _ _
   | exact LeO.none _
   | refine LeO.ite ?_ ?_
   | refine LeO.bind ?_ (fun _ => ?_)
set_option maxHeartbeats 8000000 in
set_option maxRecDepth 100000 in
theorem label_Parse.calls (k : Nat) (a0 : ByteArray) (r1 : List (S29)) (r2 : Int) (r3 : Bool) (w : World) (h : label_Parse.f k a0 = some (r1, r2, r3)) :
  Calls Try.prog 35 #[.string a0] w fun e w' => ∃ v0_ : Value, e = .returned (.tuple #[v0_, .int .i64 r2, .bool r3]) ∧ Kd.R k29 29 w' w.heap.size (fun _ => True) v0_ r1 ∧ Below w.heap.size w w' := by
 have hu29 := Try.underlying29
 have HB := Aside0.mk (Below.refl w.heap.size w)
 have H : ((strings_HasPrefix.f a0 (⟨#[123, 125]⟩ : ByteArray)).bind fun t240 => (if t240 = true then (some (([] : List (S29)), 2, true)) else ((strings_CutPrefix.f a0 (⟨#[123]⟩ : ByteArray)).bind fun bt241 => (label_Parse.l0 k a0 ([] : List (S29)) bt241.2 bt241.1)))) = some (r1, r2, r3) := h
 clear h
 replace H := Option.bind_eq_some_iff.mp H
 obtain ⟨t240, A20, H⟩ := H
 replace H : (if t240 = true then (some (([] : List (S29)), 2, true)) else ((strings_CutPrefix.f a0 (⟨#[123]⟩ : ByteArray)).bind fun bt241 => (label_Parse.l0 k a0 ([] : List (S29)) bt241.2 bt241.1))) = some (r1, r2, r3) := H
 have A2 := Aside0.mk A20
 clear A20
 by_cases c3 : t240 = true
 ·subst c3
  have H1 : (some (([] : List (S29)), 2, true)) = some (r1, r2, r3) := by rw [if_pos rfl] at H; exact H
  clear H
  have H := H1
  clear H1
  simp only [Option.some.injEq, Prod.mk.injEq] at H
  obtain ⟨rfl, rfl, rfl⟩ := H
  go_enter Try.func35, Try.ntmps35
  go_wp2_with (first | ((with_reducible refine gate_callee (f := 64) rfl ?_); refine goesL_ (some 14) rfl rfl Try.func64 (by kernel_rfl) rfl #[.string a0, .string (⟨#[123, 125]⟩ : ByteArray)] rfl ml ?_; (with_reducible refine (strings_HasPrefix.calls a0 (⟨#[123, 125]⟩ : ByteArray) true _ A2.out).mono ?_); rintro e w' ⟨rfl, ⟨nd, rfl⟩⟩; refine ⟨_, rfl, ?_⟩))
  go_ret3
  exact ⟨_, by first | rfl | (simp [errW_none, errW_some] <;> rfl) | (simp [*, errW_none, errW_some] <;> rfl), by first | exact Kd.R_nil _ _ _ _ _ | exact Kd.N_nil _ _ _ _ _ | exact Kd.V_nil _ _ _ _ _ | exact Kd.Q_nil _ _ _ _ _ | exact Kd.S_nil _ _ _ _ _, bl⟩
 ·replace c3 := Bool.eq_false_iff.mpr c3
  subst c3
  have H1 : ((strings_CutPrefix.f a0 (⟨#[123]⟩ : ByteArray)).bind fun bt241 => (label_Parse.l0 k a0 ([] : List (S29)) bt241.2 bt241.1)) = some (r1, r2, r3) := by rw [if_neg (show ¬ (false = true) by decide)] at H; exact H
  clear H
  have H := H1
  clear H1
  replace H := Option.bind_eq_some_iff.mp H
  obtain ⟨⟨t241, t242⟩, A40, H⟩ := H
  replace H : (label_Parse.l0 k a0 ([] : List (S29)) t242 t241) = some (r1, r2, r3) := H
  have A4 := Aside0.mk A40
  clear A40
  have H' := Aside0.mk H
  clear H
  go_enter Try.func35, Try.ntmps35
  go_wp2_with (first | ((with_reducible refine gate_callee (f := 64) rfl ?_); refine goesL_ (some 14) rfl rfl Try.func64 (by kernel_rfl) rfl #[.string a0, .string (⟨#[123, 125]⟩ : ByteArray)] rfl ml ?_; (with_reducible refine (strings_HasPrefix.calls a0 (⟨#[123, 125]⟩ : ByteArray) false _ A2.out).mono ?_); rintro e w' ⟨rfl, ⟨nd, rfl⟩⟩; refine ⟨_, rfl, ?_⟩) | ((with_reducible refine gate_callee (f := 65) rfl ?_); refine goesL_ (some 17) rfl rfl Try.func65 (by kernel_rfl) rfl #[.string a0, .string (⟨#[123]⟩ : ByteArray)] rfl ml ?_; (with_reducible refine (strings_CutPrefix.calls a0 (⟨#[123]⟩ : ByteArray) t241 t242 _ A4.out).mono ?_); rintro e w' ⟨rfl, ⟨nd, rfl⟩⟩; refine ⟨_, rfl, ?_⟩))
  go_loopg [2, 4, 5] k (fun kq v2 v4 v5 w' => ∃ (x2_1 : List (S29)) (x4_1 : Bool) (x5_1 : ByteArray), v4 = .bool x4_1 ∧ v5 = .string x5_1 ∧ Aside0 (label_Parse.l0 kq a0 x2_1 x4_1 x5_1 = some (r1, r2, r3)) ∧ Aside0 (kq ≤ k) ∧ Aside0 (Kd.R k29 29 w' w.heap.size (fun _ => True) v2 x2_1) ∧ Aside0 (Below w.heap.size w w'))
  case atStart => exact ⟨(([] : List (S29))), (t242), (t241), rs, rs, H', ⟨Nat.le_refl _⟩, ⟨by first | exact Kd.R_nil _ _ _ _ _ | exact Kd.N_nil _ _ _ _ _ | exact Kd.V_nil _ _ _ _ _ | exact Kd.Q_nil _ _ _ _ _ | exact Kd.S_nil _ _ _ _ _⟩, ⟨bl⟩⟩
  case round =>
   clear H'
   try clear p2
   try clear c3
   obtain ⟨x2_1, x4_1, x5_1, rfl, rfl, HA, HK1, HO_2, HB⟩ := hrel
   cases gk with
   | zero => exact absurd HA.out (by simp [label_Parse.l0])
   | succ k1 =>
    have H := HA.out
    clear HA
    simp only [label_Parse.l0] at H
    have HC5 := Aside0.mk H
    clear H
    go_upto_region 4 with (fail)
    go_cut [25] (fun v25 wc => ∃ (kq : Nat) (x25_4 : Bool), v25 = .bool x25_4 ∧ Aside0 (label_Parse.j1 kq a0 x2_1 x5_1 x25_4 = some (r1, r2, r3)) ∧ Aside0 (kq ≤ k1) ∧ Aside0 (Kd.R k29 29 wc w.heap.size (fun _ => True) u2 x2_1) ∧ Aside0 (Below w.heap.size w wc))
    case first =>
     have H := HC5.out
     clear HC5
     by_cases c6 : x4_1 = true
     ·subst c6
      have H1 : (label_Parse.j1 k1 a0 x2_1 x5_1 (decide ((x2_1.length : Int) ≤ 16))) = some (r1, r2, r3) := by rw [if_pos rfl] at H; exact H
      clear H
      have H := H1
      clear H1
      have H' := Aside0.mk H
      clear H
      obtain ⟨Ao7, co7, eo7⟩ := Kd.R_slice HO_2.out
      subst eo7
      go_wp2
      go_meet
      case rel => exact ⟨_, (decide ((x2_1.length : Int) ≤ 16)), rs, H', ⟨by have := HK1.out; first | omega | exact Nat.le_refl _⟩, ⟨rz HO_2.out⟩, ⟨bl⟩⟩
     ·replace c6 := Bool.eq_false_iff.mpr c6
      subst c6
      have H1 : (label_Parse.j1 k1 a0 x2_1 x5_1 false) = some (r1, r2, r3) := by rw [if_neg (show ¬ (false = true) by decide)] at H; exact H
      clear H
      have H := H1
      clear H1
      have H' := Aside0.mk H
      clear H
      go_wp2
      go_meet
      case rel => exact ⟨_, (false), rs, H', ⟨by have := HK1.out; first | omega | exact Nat.le_refl _⟩, ⟨rz HO_2.out⟩, ⟨bl⟩⟩
    case rest =>
     clear HC5
     try clear p2
     try clear c3
     try clear c6
     try clear p2
     obtain ⟨kq, x25_4, rfl, HA, HJ4, HO_2, HB⟩ := hcut
     cases kq with
     | zero => exact absurd HA.out (by simp [label_Parse.j1])
     | succ kj4 =>
      have H := HA.out
      clear HA
      simp only [label_Parse.j1] at H
      by_cases c8 : x25_4 = true
      ·subst c8
       have H1 : ((quote_Cut.f kj4 x5_1 (([(⟨#[61]⟩ : ByteArray)] : List ByteArray))).bind fun bt246 => ((quote_Get.f kj4 bt246.2.2).bind fun bt249 => (if bt246.2.1.toList = ([] : List UInt8) then (label_Parse.j2 kj4 a0 x2_1 bt246.1 bt246.2.2 bt249.1 bt249.2.1 true) else (if bt249.2.2 = true then (label_Parse.j2 kj4 a0 x2_1 bt246.1 bt246.2.2 bt249.1 bt249.2.1 (decide (bt249.2.1 ≥ (bt246.2.2.size : Int)))) else (label_Parse.j2 kj4 a0 x2_1 bt246.1 bt246.2.2 bt249.1 bt249.2.1 true))))) = some (r1, r2, r3) := by rw [if_pos rfl] at H; exact H
       clear H
       have H := H1
       clear H1
       obtain ⟨y243, hy243⟩ : ∃ y_ : List ByteArray, y_ = (([(⟨#[61]⟩ : ByteArray)] : List ByteArray)) := ⟨_, rfl⟩
       replace H : ((quote_Cut.f kj4 x5_1 y243).bind fun bt246 => ((quote_Get.f kj4 bt246.2.2).bind fun bt249 => (if bt246.2.1.toList = ([] : List UInt8) then (label_Parse.j2 kj4 a0 x2_1 bt246.1 bt246.2.2 bt249.1 bt249.2.1 true) else (if bt249.2.2 = true then (label_Parse.j2 kj4 a0 x2_1 bt246.1 bt246.2.2 bt249.1 bt249.2.1 (decide (bt249.2.1 ≥ (bt246.2.2.size : Int)))) else (label_Parse.j2 kj4 a0 x2_1 bt246.1 bt246.2.2 bt249.1 bt249.2.1 true))))) = some (r1, r2, r3) := by first | (rw [hy243]; with_reducible exact H) | (have H2_ := (Option.bind_some _ _).symm.trans H; rw [hy243]; with_reducible exact H2_) | (have H2_ := (Option.bind_some _ _).symm.trans H; with_reducible exact H2_) | with_reducible exact H | (rw [hy243]; exact H) | exact H
       have Ny243 := Aside0.mk hy243
       clear hy243
       replace H := Option.bind_eq_some_iff.mp H
       obtain ⟨⟨t246, t247, t248⟩, A90, H⟩ := H
       replace H : ((quote_Get.f kj4 t248).bind fun bt249 => (if t247.toList = ([] : List UInt8) then (label_Parse.j2 kj4 a0 x2_1 t246 t248 bt249.1 bt249.2.1 true) else (if bt249.2.2 = true then (label_Parse.j2 kj4 a0 x2_1 t246 t248 bt249.1 bt249.2.1 (decide (bt249.2.1 ≥ (t248.size : Int)))) else (label_Parse.j2 kj4 a0 x2_1 t246 t248 bt249.1 bt249.2.1 true)))) = some (r1, r2, r3) := H
       have A9 := Aside0.mk A90
       clear A90
       replace H := Option.bind_eq_some_iff.mp H
       obtain ⟨⟨t249, t250, t251⟩, A100, H⟩ := H
       replace H : (if t247.toList = ([] : List UInt8) then (label_Parse.j2 kj4 a0 x2_1 t246 t248 t249 t250 true) else (if t251 = true then (label_Parse.j2 kj4 a0 x2_1 t246 t248 t249 t250 (decide (t250 ≥ (t248.size : Int)))) else (label_Parse.j2 kj4 a0 x2_1 t246 t248 t249 t250 true))) = some (r1, r2, r3) := H
       have A10 := Aside0.mk A100
       clear A100
       have HC11 := Aside0.mk H
       clear H
       go_upto_region 7 with (first | ((with_reducible refine gate_dst (N := 28) rfl ?_); (try (refine gate_guard (by rfl) ?_; dsimp only)); refine Kd.R_lit Kd.string _ 9 ?hg (N := 28) ?hd (xs := ([(⟨#[61]⟩ : ByteArray)] : List ByteArray)) (inner := [.string (⟨#[61]⟩ : ByteArray)]) (ok := fun _ => True) (okp := fun _ => True) ?hr ?hp (fun _ hk => hk) trivial (Below.refl _ _) (Nat.le_refl _) (by simp) ?_; (case hd => rfl); (case hg => rfl); (case hr => first | (go_simp; done) | (go_simp; rfl)); (case hp => exact (Reps.one (show Kd.M Kd.string _ _ _ (⟨#[61]⟩ : ByteArray) [.string (⟨#[61]⟩ : ByteArray)] from rfl) (Reps.none _ _))); intro v244 w12 ho13 hb hg_ hnew_; clear hg_ hnew_; (first | rw [← Ny243.out] at ho13 | (simp only [Int.reduceToNat] at ho13; rw [← Ny243.out] at ho13)); have n0_ := Aside0.mk (Kd.R_below (rz HO_2.out) hb); have n1_ := Aside0.mk (Kd.R_lower ho13 (below_size bl)); have n2_ := Aside0.mk (below_step bl hb); clear HO_2; clear HB; have HO_2 := n0_; have HO245 := n1_; have HB := n2_; clear n0_ n1_ n2_; clear hb ho13; obtain ⟨Ao14, co14, eo14⟩ := Kd.R_slice HO245.out; subst eo14) | ((with_reducible refine gate_callee (f := 66) rfl ?_); refine goesL_ (some 29) rfl rfl Try.func66 (by kernel_rfl) rfl #[.string x5_1, .slice Ao14 y243.length co14] rfl ml ?_; (with_reducible refine (quote_Cut.calls kj4 x5_1 _ _ y243 t246 t247 t248 _ ?side1 ?side2 A9.out).mono ?_); (case side1 => exact cz (Kd.R_reads' HO245.out).2.2); (case side2 => exact (Kd.R_reads' HO245.out).2.1); rintro e w' ⟨rfl, ⟨nd, rfl⟩⟩; refine ⟨_, rfl, ?_⟩) | ((with_reducible refine gate_callee (f := 67) rfl ?_); refine goesL_ (some 35) rfl rfl Try.func67 (by kernel_rfl) rfl #[.string t248] rfl ml ?_; (with_reducible refine (quote_Get.calls kj4 t248 t249 t250 t251 _ A10.out).mono ?_); rintro e w15 ⟨rfl, hb⟩; refine ⟨_, rfl, ?_⟩; have n0_ := Aside0.mk (Kd.R_below (rz HO_2.out) hb); have n1_ := Aside0.mk (Kd.R_below (rz HO245.out) hb); have n2_ := Aside0.mk (below_step bl hb); clear HO_2; clear HO245; clear HB; have HO_2 := n0_; have HO245 := n1_; have HB := n2_; clear n0_ n1_ n2_; (try clear hb); (try clear hb2); (try clear hk); (try clear hi)))
       (try simp only [Act.put, List.setIfInBounds_toArray, List.set_cons_zero, List.set_cons_succ])
       go_cut [50] (fun v50 wc => ∃ (kq : Nat) (x50_10 : Bool), v50 = .bool x50_10 ∧ Aside0 (label_Parse.j2 kq a0 x2_1 t246 t248 t249 t250 x50_10 = some (r1, r2, r3)) ∧ Aside0 (kq ≤ kj4) ∧ Aside0 (Kd.R k29 29 wc w.heap.size (fun _ => True) u2 x2_1) ∧ Aside0 (Below w.heap.size w wc))
       case first =>
        have H := HC11.out
        clear HC11
        by_cases c16 : t247.toList = ([] : List UInt8)
        ·rw [if_pos c16] at H
         have c16b0 : (t247.toList == ([] : List UInt8)) = true := beq_iff_eq.mpr c16
         have c16b1 : (t247.toList != ([] : List UInt8)) = false := bne_eq_false_iff_eq.mpr c16
         clear c16
         (first | rw [c16b0] | (simp only [i64_w, i32_w]; rw [c16b0]) | skip)
         have H' := Aside0.mk H
         clear H
         go_wp2
         go_meet
         case rel => exact ⟨_, (true), rs, H', ⟨by have := HK1.out; have := HJ4.out; first | omega | exact Nat.le_refl _⟩, ⟨rz HO_2.out⟩, ⟨bl⟩⟩
        ·rw [if_neg c16] at H
         have c16b0 : (t247.toList == ([] : List UInt8)) = false := beq_eq_false_iff_ne.mpr c16
         have c16b1 : (t247.toList != ([] : List UInt8)) = true := bne_iff_ne.mpr c16
         (first | rw [c16b0] | (simp only [i64_w, i32_w]; rw [c16b0]) | skip)
         by_cases c17 : t251 = true
         ·subst c17
          have H1 : (label_Parse.j2 kj4 a0 x2_1 t246 t248 t249 t250 (decide (t250 ≥ (t248.size : Int)))) = some (r1, r2, r3) := by rw [if_pos rfl] at H; exact H
          clear H
          have H := H1
          clear H1
          have H' := Aside0.mk H
          clear H
          go_wp2
          go_meet
          case rel => exact ⟨_, (decide (t250 ≥ (t248.size : Int))), rs, H', ⟨by have := HK1.out; have := HJ4.out; first | omega | exact Nat.le_refl _⟩, ⟨rz HO_2.out⟩, ⟨bl⟩⟩
         ·replace c17 := Bool.eq_false_iff.mpr c17
          subst c17
          have H1 : (label_Parse.j2 kj4 a0 x2_1 t246 t248 t249 t250 true) = some (r1, r2, r3) := by rw [if_neg (show ¬ (false = true) by decide)] at H; exact H
          clear H
          have H := H1
          clear H1
          have H' := Aside0.mk H
          clear H
          go_wp2
          go_meet
          case rel => exact ⟨_, (true), rs, H', ⟨by have := HK1.out; have := HJ4.out; first | omega | exact Nat.le_refl _⟩, ⟨rz HO_2.out⟩, ⟨bl⟩⟩
       case rest =>
        clear HC11
        try clear c1
        try clear p2
        try clear c3
        try clear c6
        try clear c8
        try clear c16
        try clear c16b0
        try clear c16b1
        try clear c17
        try clear p2
        obtain ⟨kq, x50_10, rfl, HA, HJ10, HO_2, HB⟩ := hcut
        cases kq with
        | zero => exact absurd HA.out (by simp [label_Parse.j2])
        | succ kj10 =>
         have H := HA.out
         clear HA
         simp only [label_Parse.j2] at H
         by_cases c18 : x50_10 = true
         ·subst c18
          have H1 : (some (([] : List (S29)), 0, false)) = some (r1, r2, r3) := by rw [if_pos rfl] at H; exact H
          clear H
          have H := H1
          clear H1
          simp only [Option.some.injEq, Prod.mk.injEq] at H
          obtain ⟨rfl, rfl, rfl⟩ := H
          go_wp2
          go_ret3
          exact ⟨_, by first | rfl | (simp [errW_none, errW_some] <;> rfl) | (simp [*, errW_none, errW_some] <;> rfl), by first | exact Kd.R_nil _ _ _ _ _ | exact Kd.N_nil _ _ _ _ _ | exact Kd.V_nil _ _ _ _ _ | exact Kd.Q_nil _ _ _ _ _ | exact Kd.S_nil _ _ _ _ _, bl⟩
         ·replace c18 := Bool.eq_false_iff.mpr c18
          subst c18
          have H1 : (if x2_1.length < 4398046511104 then ((some (x2_1 ++ [(⟨t246, t249⟩ : S29)] : List (S29))).bind fun y252 => (if 0 ≤ t250 then (if t250 < (t248.size : Int) then (if 0 ≤ (wrap64 (t250 + 1)) then (if (wrap64 (t250 + 1)) ≤ (t248.size : Int) then (if (bt t248 t250) = 125 then ((label_Right.f kj10 y252).bind fun t255 => (if t255 = true then (some (y252, wrap64 ((a0.size : Int) - ((t248.extract ((wrap64 (t250 + 1)) : Int).toNat t248.size).size : Int)), true)) else (some (([] : List (S29)), 0, false)))) else (label_Parse.l0 kj10 a0 y252 ((bt t248 t250) == 44) (t248.extract ((wrap64 (t250 + 1)) : Int).toNat t248.size))) else (none)) else (none)) else (none)) else (none))) else (none)) = some (r1, r2, r3) := by rw [if_neg (show ¬ (false = true) by decide)] at H; exact H
          clear H
          have H := H1
          clear H1
          by_cases c19 : x2_1.length < 4398046511104
          ·rw [if_pos c19] at H
           have LMc19 := Aside0.mk c19
           clear c19
           obtain ⟨y252, hy252⟩ : ∃ y_ : List (S29), y_ = (x2_1 ++ [(⟨t246, t249⟩ : S29)]) := ⟨_, rfl⟩
           replace H : (if 0 ≤ t250 then (if t250 < (t248.size : Int) then (if 0 ≤ (wrap64 (t250 + 1)) then (if (wrap64 (t250 + 1)) ≤ (t248.size : Int) then (if (bt t248 t250) = 125 then ((label_Right.f kj10 y252).bind fun t255 => (if t255 = true then (some (y252, wrap64 ((a0.size : Int) - ((t248.extract ((wrap64 (t250 + 1)) : Int).toNat t248.size).size : Int)), true)) else (some (([] : List (S29)), 0, false)))) else (label_Parse.l0 kj10 a0 y252 ((bt t248 t250) == 44) (t248.extract ((wrap64 (t250 + 1)) : Int).toNat t248.size))) else (none)) else (none)) else (none)) else (none)) = some (r1, r2, r3) := by first | (rw [hy252]; with_reducible exact H) | (have H2_ := (Option.bind_some _ _).symm.trans H; rw [hy252]; with_reducible exact H2_) | (have H2_ := (Option.bind_some _ _).symm.trans H; with_reducible exact H2_) | with_reducible exact H | (rw [hy252]; exact H) | exact H
           have Ny252 := Aside0.mk hy252
           clear hy252
           by_cases c20 : 0 ≤ t250
           ·rw [if_pos c20] at H
            have c20b0 := decide_eq_true c20
            clear c20
            by_cases c21 : t250 < (t248.size : Int)
            ·rw [if_pos c21] at H
             have c21b0 := decide_eq_true c21
             clear c21
             obtain ⟨ji23, hji23⟩ : ∃ j_ : Int, (wrap64 (t250 + 1)) = j_ := ⟨_, rfl⟩
             replace H : (if 0 ≤ (ji23) then (if (ji23) ≤ (t248.size : Int) then (if (bt t248 t250) = 125 then ((label_Right.f kj10 y252).bind fun t255 => (if t255 = true then (some (y252, wrap64 ((a0.size : Int) - ((t248.extract ((ji23) : Int).toNat t248.size).size : Int)), true)) else (some (([] : List (S29)), 0, false)))) else (label_Parse.l0 kj10 a0 y252 ((bt t248 t250) == 44) (t248.extract ((ji23) : Int).toNat t248.size))) else (none)) else (none)) = some (r1, r2, r3) := by first | (rw [hji23] at H; exact H) | (simp only [hji23] at H ⊢; exact H)
             have hji23w : (IntKind.i64.wrap (t250 + 1)) = ji23 := (i64_w _).trans hji23
             by_cases c24 : 0 ≤ (ji23)
             ·rw [if_pos c24] at H
              have c24b0 := eq_true c24
              have c24b1 : decide (0 ≤ (ji23)) = true := decide_eq_true c24
              clear c24
              by_cases c25 : (ji23) ≤ (t248.size : Int)
              ·rw [if_pos c25] at H
               have c25b0 := eq_true c25
               have c25b1 : decide ((ji23) ≤ (t248.size : Int)) = true := decide_eq_true c25
               clear c25
               by_cases c26 : (bt t248 t250) = 125
               ·rw [if_pos c26] at H
                have c26b0 : ((bt t248 t250) == 125) = true := beq_iff_eq.mpr c26
                have c26b1 : ((bt t248 t250) != 125) = false := bne_eq_false_iff_eq.mpr c26
                clear c26
                replace H := Option.bind_eq_some_iff.mp H
                obtain ⟨t255, A270, H⟩ := H
                replace H : (if t255 = true then (some (y252, wrap64 ((a0.size : Int) - ((t248.extract ((ji23) : Int).toNat t248.size).size : Int)), true)) else (some (([] : List (S29)), 0, false))) = some (r1, r2, r3) := H
                have A27 := Aside0.mk A270
                clear A270
                by_cases c28 : t255 = true
                ·subst c28
                 have H1 : (some (y252, wrap64 ((a0.size : Int) - ((t248.extract ((ji23) : Int).toNat t248.size).size : Int)), true)) = some (r1, r2, r3) := by rw [if_pos rfl] at H; exact H
                 clear H
                 have H := H1
                 clear H1
                 simp only [Option.some.injEq, Prod.mk.injEq] at H
                 obtain ⟨rfl, rfl, rfl⟩ := H
                 go_wp2_with (first | ((with_reducible refine gate_builtin (b := .append) (xs := #[.tmp 51, .tmp 55]) rfl ?_); (try (refine gate_guard (by rfl) ?_; dsimp only)); at_builtin; refine Kd.R_append k29 (w0 := w) w.heap.size rfl (.tmp 51) (.tmp 55) 31 29 (.agg #[(.string ⟨#[]⟩), (.string ⟨#[]⟩)]) 32 rfl Try.underlying31 info29 rfl (by decide) (by omega) u2 x2_1 (⟨t246, t249⟩ : S29) [.string t246, .string t249] (fun _ => True) (fun _ => False) rfl rfl ?aP (fun _ hk => hk.elim) ?aF ?aO ?aB ?aS ?aL ?_; (case aP => exact k29_mkM _ _ _ (⟨t246, t249⟩ : S29)); (case aB => exact bl); (case aF => exact (fun _ _ => trivial)); (case aO => exact (rz HO_2.out)); (case aS => exact (below_size bl)); (case aL => have := LMc19.out; omega); intro v253 w29 ho hb hg hat; rw [← Ny252.out] at ho; have n0_ := Aside0.mk (hb); have n1_ := Aside0.mk (ho); clear HB; clear HO_2; have HB := n0_; have HO254 := n1_; clear n0_ n1_; clear ho hb hg hat; have p22 : 0 ≤ (t250 : Int) := od; have q22 : t250 < (t248.size : Int) := od; have hx22 := bt_at t248 t250; replace p22 := eq_true p22; replace q22 := eq_true q22; obtain ⟨Ao30, co30, eo30⟩ := Kd.R_slice HO254.out; subst eo30) | ((with_reducible refine gate_callee (f := 27) rfl ?_); refine goesL_ (some 67) rfl rfl Try.func27 (by kernel_rfl) rfl #[.slice Ao30 y252.length co30] rfl ml ?_; (with_reducible refine (label_Right.calls kj10 _ _ y252 true _ ?side1 ?side2 A27.out).mono ?_); (case side1 => exact cz (Kd.R_reads' HO254.out).2.2); (case side2 => exact (Kd.R_reads' HO254.out).2.1); rintro e w31 ⟨rfl, hb⟩; refine ⟨_, rfl, ?_⟩; have n0_ := Aside0.mk (Kd.R_below (rz HO254.out) hb); have n1_ := Aside0.mk (below_step bl hb); clear HO254; clear HB; have HO254 := n0_; have HB := n1_; clear n0_ n1_; (try clear hb); (try clear hb2); (try clear hk); (try clear hi)))
                 go_ret3
                 exact ⟨_, by first | rfl | (simp [errW_none, errW_some] <;> rfl) | (simp only [← hji23]; first | rfl | (simp [errW_none, errW_some] <;> rfl)) | (simp [*, errW_none, errW_some] <;> rfl), by (with_reducible repeat (first | apply Kd.R_alloc | apply Kd.R_drewN | apply Kd.R_drew)); exact HO254.out, bl⟩
                ·replace c28 := Bool.eq_false_iff.mpr c28
                 subst c28
                 have H1 : (some (([] : List (S29)), 0, false)) = some (r1, r2, r3) := by rw [if_neg (show ¬ (false = true) by decide)] at H; exact H
                 clear H
                 have H := H1
                 clear H1
                 simp only [Option.some.injEq, Prod.mk.injEq] at H
                 obtain ⟨rfl, rfl, rfl⟩ := H
                 go_wp2_with (first | ((with_reducible refine gate_builtin (b := .append) (xs := #[.tmp 51, .tmp 55]) rfl ?_); (try (refine gate_guard (by rfl) ?_; dsimp only)); at_builtin; refine Kd.R_append k29 (w0 := w) w.heap.size rfl (.tmp 51) (.tmp 55) 31 29 (.agg #[(.string ⟨#[]⟩), (.string ⟨#[]⟩)]) 32 rfl Try.underlying31 info29 rfl (by decide) (by omega) u2 x2_1 (⟨t246, t249⟩ : S29) [.string t246, .string t249] (fun _ => True) (fun _ => False) rfl rfl ?aP (fun _ hk => hk.elim) ?aF ?aO ?aB ?aS ?aL ?_; (case aP => exact k29_mkM _ _ _ (⟨t246, t249⟩ : S29)); (case aB => exact bl); (case aF => exact (fun _ _ => trivial)); (case aO => exact (rz HO_2.out)); (case aS => exact (below_size bl)); (case aL => have := LMc19.out; omega); intro v253 w32 ho hb hg hat; rw [← Ny252.out] at ho; have n0_ := Aside0.mk (hb); have n1_ := Aside0.mk (ho); clear HB; clear HO_2; have HB := n0_; have HO254 := n1_; clear n0_ n1_; clear ho hb hg hat; have p22 : 0 ≤ (t250 : Int) := od; have q22 : t250 < (t248.size : Int) := od; have hx22 := bt_at t248 t250; replace p22 := eq_true p22; replace q22 := eq_true q22; obtain ⟨Ao33, co33, eo33⟩ := Kd.R_slice HO254.out; subst eo33) | ((with_reducible refine gate_callee (f := 27) rfl ?_); refine goesL_ (some 67) rfl rfl Try.func27 (by kernel_rfl) rfl #[.slice Ao33 y252.length co33] rfl ml ?_; (with_reducible refine (label_Right.calls kj10 _ _ y252 false _ ?side1 ?side2 A27.out).mono ?_); (case side1 => exact cz (Kd.R_reads' HO254.out).2.2); (case side2 => exact (Kd.R_reads' HO254.out).2.1); rintro e w34 ⟨rfl, hb⟩; refine ⟨_, rfl, ?_⟩; have n0_ := Aside0.mk (Kd.R_below (rz HO254.out) hb); have n1_ := Aside0.mk (below_step bl hb); clear HO254; clear HB; have HO254 := n0_; have HB := n1_; clear n0_ n1_; (try clear hb); (try clear hb2); (try clear hk); (try clear hi)))
                 go_ret3
                 exact ⟨_, by first | rfl | (simp [errW_none, errW_some] <;> rfl) | (simp only [← hji23]; first | rfl | (simp [errW_none, errW_some] <;> rfl)) | (simp [*, errW_none, errW_some] <;> rfl), by first | exact Kd.R_nil _ _ _ _ _ | exact Kd.N_nil _ _ _ _ _ | exact Kd.V_nil _ _ _ _ _ | exact Kd.Q_nil _ _ _ _ _ | exact Kd.S_nil _ _ _ _ _, bl⟩
               ·rw [if_neg c26] at H
                have c26b0 : ((bt t248 t250) == 125) = false := beq_eq_false_iff_ne.mpr c26
                have c26b1 : ((bt t248 t250) != 125) = true := bne_iff_ne.mpr c26
                have H' := Aside0.mk H
                clear H
                go_wp2_with (first | ((with_reducible refine gate_builtin (b := .append) (xs := #[.tmp 51, .tmp 55]) rfl ?_); (try (refine gate_guard (by rfl) ?_; dsimp only)); at_builtin; refine Kd.R_append k29 (w0 := w) w.heap.size rfl (.tmp 51) (.tmp 55) 31 29 (.agg #[(.string ⟨#[]⟩), (.string ⟨#[]⟩)]) 32 rfl Try.underlying31 info29 rfl (by decide) (by omega) u2 x2_1 (⟨t246, t249⟩ : S29) [.string t246, .string t249] (fun _ => True) (fun _ => False) rfl rfl ?aP (fun _ hk => hk.elim) ?aF ?aO ?aB ?aS ?aL ?_; (case aP => exact k29_mkM _ _ _ (⟨t246, t249⟩ : S29)); (case aB => exact bl); (case aF => exact (fun _ _ => trivial)); (case aO => exact (rz HO_2.out)); (case aS => exact (below_size bl)); (case aL => have := LMc19.out; omega); intro v253 w35 ho hb hg hat; rw [← Ny252.out] at ho; have n0_ := Aside0.mk (hb); have n1_ := Aside0.mk (ho); clear HB; clear HO_2; have HB := n0_; have HO254 := n1_; clear n0_ n1_; clear ho hb hg hat; have p22 : 0 ≤ (t250 : Int) := od; have q22 : t250 < (t248.size : Int) := od; have hx22 := bt_at t248 t250; replace p22 := eq_true p22; replace q22 := eq_true q22))
                go_roundg kj10
                case measure => have := HK1.out; have := HJ4.out; have := HJ10.out; omega
                case rel => exact ⟨(y252), (((bt t248 t250) == 44)), (t248.extract ((ji23) : Int).toNat t248.size), rs, (by first | rfl | (simp; done) | (simp only [← hji23] <;> (first | rfl | simp)) | (simp [*]; done)), H', ⟨by have := HK1.out; have := HJ4.out; have := HJ10.out; omega⟩, ⟨rz HO254.out⟩, ⟨bl⟩⟩
              ·rw [if_neg c25] at H
               exact absurd H (by simp)
             ·rw [if_neg c24] at H
              exact absurd H (by simp)
            ·rw [if_neg c21] at H
             exact absurd H (by simp)
           ·rw [if_neg c20] at H
            exact absurd H (by simp)
          ·rw [if_neg c19] at H
           exact absurd H (by simp)
      ·replace c8 := Bool.eq_false_iff.mpr c8
       subst c8
       have H1 : (some (([] : List (S29)), 0, false)) = some (r1, r2, r3) := by rw [if_neg (show ¬ (false = true) by decide)] at H; exact H
       clear H
       have H := H1
       clear H1
       simp only [Option.some.injEq, Prod.mk.injEq] at H
       obtain ⟨rfl, rfl, rfl⟩ := H
       go_wp2
       go_ret3
       exact ⟨_, by first | rfl | (simp [errW_none, errW_some] <;> rfl) | (simp [*, errW_none, errW_some] <;> rfl), by first | exact Kd.R_nil _ _ _ _ _ | exact Kd.N_nil _ _ _ _ _ | exact Kd.V_nil _ _ _ _ _ | exact Kd.Q_nil _ _ _ _ _ | exact Kd.S_nil _ _ _ _ _, bl⟩

/-! ### archivistlaw06_examples: function 15 -/
def archivistlaw06_examples.f (k : Nat)  : Option (Bool) := (label_Of.f k (([(⟨(⟨#[98]⟩ : ByteArray), (⟨#[50]⟩ : ByteArray)⟩ : S29), (⟨(⟨#[97]⟩ : ByteArray), (⟨#[49]⟩ : ByteArray)⟩ : S29), (⟨(⟨#[98]⟩ : ByteArray), (⟨#[51]⟩ : ByteArray)⟩ : S29), (⟨(⟨#[57]⟩ : ByteArray), (⟨#[]⟩ : ByteArray)⟩ : S29)] : List (S29)))).bind fun t259 => ((label_Set_Get.f k t259 (⟨#[98]⟩ : ByteArray)).bind fun bt262 => ((label_Set_Get.f k t259 (⟨#[99]⟩ : ByteArray)).bind fun bt264 => ((label_Set_Text.f k t259).bind fun t266 => (if t266.size + 1 ≤ 9223372036854775807 then ((label_Parse.f k (t266 ++ (⟨#[120]⟩ : ByteArray))).bind fun bt267 => ((label_Parse.f k (⟨#[123, 98, 61, 34, 49, 34, 44, 97, 61, 34, 50, 34, 125]⟩ : ByteArray)).bind fun bt272 => ((label_Set_Text.f k t259).bind fun t277 => (if t277.toList = ([123, 97, 61, 34, 49, 34, 44, 98, 61, 34, 51, 34, 125] : List UInt8) then (if bt262.1.toList = ([51] : List UInt8) then (if bt262.2 = true then (if bt264.2 = true then (none) else ((label_Same.f k t259 bt267.1).bind fun t278 => (if t278 = true then (if bt267.2.1 = 13 then (if bt267.2.2 = true then (if bt272.2.2 = true then (none) else ((label_Name.f k (⟨#[97, 95, 57]⟩ : ByteArray)).bind fun t279 => (if t279 = true then ((label_Name.f k (⟨#[57, 97]⟩ : ByteArray)).bind fun t280 => (if t280 = true then (none) else ((label_Name.f k (⟨#[]⟩ : ByteArray)).bind fun t281 => (if t281 = true then (none) else ((label_Right.f k t259).bind fun t282 => (if t282 = true then ((label_Set_With.f k t259 (([(⟨(⟨#[99]⟩ : ByteArray), (⟨#[]⟩ : ByteArray)⟩ : S29)] : List (S29)))).bind fun t286 => (if (t286.length : Int) = 3 then ((label_Order.f k t259 ([] : List (S29))).bind fun t289 => (some (t289 == 1))) else (none))) else (none))))))) else (none)))) else (none)) else (none)) else (none)))) else (none)) else (none)) else (none))))) else (none)))))
theorem archivistlaw06_examples.mono : ∀ k, LeO (archivistlaw06_examples.f k ) (archivistlaw06_examples.f (k + 1) ) := by
 intro  k
 unfold archivistlaw06_examples.f
 repeat' first
   | (with_reducible exact label_Name.mono _ _)
   | (with_reducible exact label_Of.mono _ _)
   | (with_reducible exact label_Order.mono _ _ _)
   | (with_reducible exact label_Parse.mono _ _)
   | (with_reducible exact label_Right.mono _ _)
   | (with_reducible exact label_Same.mono _ _ _)
   | (with_reducible exact label_Set_Get.mono _ _ _)
   | (with_reducible exact label_Set_Text.mono _ _)
   | (with_reducible exact label_Set_With.mono _ _ _)
   | (with_reducible exact LeO.refl _)
   | (with_reducible exact LeO.none _)
   | (with_reducible refine LeO.ite ?_ ?_)
   | (with_reducible refine LeO.bind ?_ (fun _ => ?_))
   | exact label_Name.mono _ _
   | exact label_Of.mono _ _
   | exact label_Order.mono _ _ _
   | exact label_Parse.mono _ _
   | exact label_Right.mono _ _
   | exact label_Same.mono _ _ _
   | exact label_Set_Get.mono _ _ _
   | exact label_Set_Text.mono _ _
   | exact label_Set_With.mono _ _ _
   | exact LeO.none _
   | refine LeO.ite ?_ ?_
   | refine LeO.bind ?_ (fun _ => ?_)
set_option maxHeartbeats 8000000 in
set_option maxRecDepth 100000 in
theorem archivistlaw06_examples.calls (k : Nat)  (r : Bool) (w : World) (h : archivistlaw06_examples.f k  = some r) :
  Calls Try.prog 15 #[] w fun e w' => e = .returned (.bool r) ∧ Below w.heap.size w w' := by
 have hu29 := Try.underlying29
 have HB := Aside0.mk (Below.refl w.heap.size w)
 have H : ((label_Of.f k (([(⟨(⟨#[98]⟩ : ByteArray), (⟨#[50]⟩ : ByteArray)⟩ : S29), (⟨(⟨#[97]⟩ : ByteArray), (⟨#[49]⟩ : ByteArray)⟩ : S29), (⟨(⟨#[98]⟩ : ByteArray), (⟨#[51]⟩ : ByteArray)⟩ : S29), (⟨(⟨#[57]⟩ : ByteArray), (⟨#[]⟩ : ByteArray)⟩ : S29)] : List (S29)))).bind fun t259 => ((label_Set_Get.f k t259 (⟨#[98]⟩ : ByteArray)).bind fun bt262 => ((label_Set_Get.f k t259 (⟨#[99]⟩ : ByteArray)).bind fun bt264 => ((label_Set_Text.f k t259).bind fun t266 => (if t266.size + 1 ≤ 9223372036854775807 then ((label_Parse.f k (t266 ++ (⟨#[120]⟩ : ByteArray))).bind fun bt267 => ((label_Parse.f k (⟨#[123, 98, 61, 34, 49, 34, 44, 97, 61, 34, 50, 34, 125]⟩ : ByteArray)).bind fun bt272 => ((label_Set_Text.f k t259).bind fun t277 => (if t277.toList = ([123, 97, 61, 34, 49, 34, 44, 98, 61, 34, 51, 34, 125] : List UInt8) then (if bt262.1.toList = ([51] : List UInt8) then (if bt262.2 = true then (if bt264.2 = true then (none) else ((label_Same.f k t259 bt267.1).bind fun t278 => (if t278 = true then (if bt267.2.1 = 13 then (if bt267.2.2 = true then (if bt272.2.2 = true then (none) else ((label_Name.f k (⟨#[97, 95, 57]⟩ : ByteArray)).bind fun t279 => (if t279 = true then ((label_Name.f k (⟨#[57, 97]⟩ : ByteArray)).bind fun t280 => (if t280 = true then (none) else ((label_Name.f k (⟨#[]⟩ : ByteArray)).bind fun t281 => (if t281 = true then (none) else ((label_Right.f k t259).bind fun t282 => (if t282 = true then ((label_Set_With.f k t259 (([(⟨(⟨#[99]⟩ : ByteArray), (⟨#[]⟩ : ByteArray)⟩ : S29)] : List (S29)))).bind fun t286 => (if (t286.length : Int) = 3 then ((label_Order.f k t259 ([] : List (S29))).bind fun t289 => (some (t289 == 1))) else (none))) else (none))))))) else (none)))) else (none)) else (none)) else (none)))) else (none)) else (none)) else (none))))) else (none)))))) = some r := h
 clear h
 obtain ⟨y256, hy256⟩ : ∃ y_ : List (S29), y_ = (([(⟨(⟨#[98]⟩ : ByteArray), (⟨#[50]⟩ : ByteArray)⟩ : S29), (⟨(⟨#[97]⟩ : ByteArray), (⟨#[49]⟩ : ByteArray)⟩ : S29), (⟨(⟨#[98]⟩ : ByteArray), (⟨#[51]⟩ : ByteArray)⟩ : S29), (⟨(⟨#[57]⟩ : ByteArray), (⟨#[]⟩ : ByteArray)⟩ : S29)] : List (S29))) := ⟨_, rfl⟩
 replace H : ((label_Of.f k y256).bind fun t259 => ((label_Set_Get.f k t259 (⟨#[98]⟩ : ByteArray)).bind fun bt262 => ((label_Set_Get.f k t259 (⟨#[99]⟩ : ByteArray)).bind fun bt264 => ((label_Set_Text.f k t259).bind fun t266 => (if t266.size + 1 ≤ 9223372036854775807 then ((label_Parse.f k (t266 ++ (⟨#[120]⟩ : ByteArray))).bind fun bt267 => ((label_Parse.f k (⟨#[123, 98, 61, 34, 49, 34, 44, 97, 61, 34, 50, 34, 125]⟩ : ByteArray)).bind fun bt272 => ((label_Set_Text.f k t259).bind fun t277 => (if t277.toList = ([123, 97, 61, 34, 49, 34, 44, 98, 61, 34, 51, 34, 125] : List UInt8) then (if bt262.1.toList = ([51] : List UInt8) then (if bt262.2 = true then (if bt264.2 = true then (none) else ((label_Same.f k t259 bt267.1).bind fun t278 => (if t278 = true then (if bt267.2.1 = 13 then (if bt267.2.2 = true then (if bt272.2.2 = true then (none) else ((label_Name.f k (⟨#[97, 95, 57]⟩ : ByteArray)).bind fun t279 => (if t279 = true then ((label_Name.f k (⟨#[57, 97]⟩ : ByteArray)).bind fun t280 => (if t280 = true then (none) else ((label_Name.f k (⟨#[]⟩ : ByteArray)).bind fun t281 => (if t281 = true then (none) else ((label_Right.f k t259).bind fun t282 => (if t282 = true then ((label_Set_With.f k t259 (([(⟨(⟨#[99]⟩ : ByteArray), (⟨#[]⟩ : ByteArray)⟩ : S29)] : List (S29)))).bind fun t286 => (if (t286.length : Int) = 3 then ((label_Order.f k t259 ([] : List (S29))).bind fun t289 => (some (t289 == 1))) else (none))) else (none))))))) else (none)))) else (none)) else (none)) else (none)))) else (none)) else (none)) else (none))))) else (none)))))) = some r := by first | (rw [hy256]; with_reducible exact H) | (have H2_ := (Option.bind_some _ _).symm.trans H; rw [hy256]; with_reducible exact H2_) | (have H2_ := (Option.bind_some _ _).symm.trans H; with_reducible exact H2_) | with_reducible exact H | (rw [hy256]; exact H) | exact H
 have Ny256 := Aside0.mk hy256
 clear hy256
 replace H := Option.bind_eq_some_iff.mp H
 obtain ⟨t259, A10, H⟩ := H
 replace H : ((label_Set_Get.f k t259 (⟨#[98]⟩ : ByteArray)).bind fun bt262 => ((label_Set_Get.f k t259 (⟨#[99]⟩ : ByteArray)).bind fun bt264 => ((label_Set_Text.f k t259).bind fun t266 => (if t266.size + 1 ≤ 9223372036854775807 then ((label_Parse.f k (t266 ++ (⟨#[120]⟩ : ByteArray))).bind fun bt267 => ((label_Parse.f k (⟨#[123, 98, 61, 34, 49, 34, 44, 97, 61, 34, 50, 34, 125]⟩ : ByteArray)).bind fun bt272 => ((label_Set_Text.f k t259).bind fun t277 => (if t277.toList = ([123, 97, 61, 34, 49, 34, 44, 98, 61, 34, 51, 34, 125] : List UInt8) then (if bt262.1.toList = ([51] : List UInt8) then (if bt262.2 = true then (if bt264.2 = true then (none) else ((label_Same.f k t259 bt267.1).bind fun t278 => (if t278 = true then (if bt267.2.1 = 13 then (if bt267.2.2 = true then (if bt272.2.2 = true then (none) else ((label_Name.f k (⟨#[97, 95, 57]⟩ : ByteArray)).bind fun t279 => (if t279 = true then ((label_Name.f k (⟨#[57, 97]⟩ : ByteArray)).bind fun t280 => (if t280 = true then (none) else ((label_Name.f k (⟨#[]⟩ : ByteArray)).bind fun t281 => (if t281 = true then (none) else ((label_Right.f k t259).bind fun t282 => (if t282 = true then ((label_Set_With.f k t259 (([(⟨(⟨#[99]⟩ : ByteArray), (⟨#[]⟩ : ByteArray)⟩ : S29)] : List (S29)))).bind fun t286 => (if (t286.length : Int) = 3 then ((label_Order.f k t259 ([] : List (S29))).bind fun t289 => (some (t289 == 1))) else (none))) else (none))))))) else (none)))) else (none)) else (none)) else (none)))) else (none)) else (none)) else (none))))) else (none))))) = some r := H
 have A1 := Aside0.mk A10
 clear A10
 replace H := Option.bind_eq_some_iff.mp H
 obtain ⟨⟨t262, t263⟩, A20, H⟩ := H
 replace H : ((label_Set_Get.f k t259 (⟨#[99]⟩ : ByteArray)).bind fun bt264 => ((label_Set_Text.f k t259).bind fun t266 => (if t266.size + 1 ≤ 9223372036854775807 then ((label_Parse.f k (t266 ++ (⟨#[120]⟩ : ByteArray))).bind fun bt267 => ((label_Parse.f k (⟨#[123, 98, 61, 34, 49, 34, 44, 97, 61, 34, 50, 34, 125]⟩ : ByteArray)).bind fun bt272 => ((label_Set_Text.f k t259).bind fun t277 => (if t277.toList = ([123, 97, 61, 34, 49, 34, 44, 98, 61, 34, 51, 34, 125] : List UInt8) then (if t262.toList = ([51] : List UInt8) then (if t263 = true then (if bt264.2 = true then (none) else ((label_Same.f k t259 bt267.1).bind fun t278 => (if t278 = true then (if bt267.2.1 = 13 then (if bt267.2.2 = true then (if bt272.2.2 = true then (none) else ((label_Name.f k (⟨#[97, 95, 57]⟩ : ByteArray)).bind fun t279 => (if t279 = true then ((label_Name.f k (⟨#[57, 97]⟩ : ByteArray)).bind fun t280 => (if t280 = true then (none) else ((label_Name.f k (⟨#[]⟩ : ByteArray)).bind fun t281 => (if t281 = true then (none) else ((label_Right.f k t259).bind fun t282 => (if t282 = true then ((label_Set_With.f k t259 (([(⟨(⟨#[99]⟩ : ByteArray), (⟨#[]⟩ : ByteArray)⟩ : S29)] : List (S29)))).bind fun t286 => (if (t286.length : Int) = 3 then ((label_Order.f k t259 ([] : List (S29))).bind fun t289 => (some (t289 == 1))) else (none))) else (none))))))) else (none)))) else (none)) else (none)) else (none)))) else (none)) else (none)) else (none))))) else (none)))) = some r := H
 have A2 := Aside0.mk A20
 clear A20
 replace H := Option.bind_eq_some_iff.mp H
 obtain ⟨⟨t264, t265⟩, A30, H⟩ := H
 replace H : ((label_Set_Text.f k t259).bind fun t266 => (if t266.size + 1 ≤ 9223372036854775807 then ((label_Parse.f k (t266 ++ (⟨#[120]⟩ : ByteArray))).bind fun bt267 => ((label_Parse.f k (⟨#[123, 98, 61, 34, 49, 34, 44, 97, 61, 34, 50, 34, 125]⟩ : ByteArray)).bind fun bt272 => ((label_Set_Text.f k t259).bind fun t277 => (if t277.toList = ([123, 97, 61, 34, 49, 34, 44, 98, 61, 34, 51, 34, 125] : List UInt8) then (if t262.toList = ([51] : List UInt8) then (if t263 = true then (if t265 = true then (none) else ((label_Same.f k t259 bt267.1).bind fun t278 => (if t278 = true then (if bt267.2.1 = 13 then (if bt267.2.2 = true then (if bt272.2.2 = true then (none) else ((label_Name.f k (⟨#[97, 95, 57]⟩ : ByteArray)).bind fun t279 => (if t279 = true then ((label_Name.f k (⟨#[57, 97]⟩ : ByteArray)).bind fun t280 => (if t280 = true then (none) else ((label_Name.f k (⟨#[]⟩ : ByteArray)).bind fun t281 => (if t281 = true then (none) else ((label_Right.f k t259).bind fun t282 => (if t282 = true then ((label_Set_With.f k t259 (([(⟨(⟨#[99]⟩ : ByteArray), (⟨#[]⟩ : ByteArray)⟩ : S29)] : List (S29)))).bind fun t286 => (if (t286.length : Int) = 3 then ((label_Order.f k t259 ([] : List (S29))).bind fun t289 => (some (t289 == 1))) else (none))) else (none))))))) else (none)))) else (none)) else (none)) else (none)))) else (none)) else (none)) else (none))))) else (none))) = some r := H
 have A3 := Aside0.mk A30
 clear A30
 replace H := Option.bind_eq_some_iff.mp H
 obtain ⟨t266, A40, H⟩ := H
 replace H : (if t266.size + 1 ≤ 9223372036854775807 then ((label_Parse.f k (t266 ++ (⟨#[120]⟩ : ByteArray))).bind fun bt267 => ((label_Parse.f k (⟨#[123, 98, 61, 34, 49, 34, 44, 97, 61, 34, 50, 34, 125]⟩ : ByteArray)).bind fun bt272 => ((label_Set_Text.f k t259).bind fun t277 => (if t277.toList = ([123, 97, 61, 34, 49, 34, 44, 98, 61, 34, 51, 34, 125] : List UInt8) then (if t262.toList = ([51] : List UInt8) then (if t263 = true then (if t265 = true then (none) else ((label_Same.f k t259 bt267.1).bind fun t278 => (if t278 = true then (if bt267.2.1 = 13 then (if bt267.2.2 = true then (if bt272.2.2 = true then (none) else ((label_Name.f k (⟨#[97, 95, 57]⟩ : ByteArray)).bind fun t279 => (if t279 = true then ((label_Name.f k (⟨#[57, 97]⟩ : ByteArray)).bind fun t280 => (if t280 = true then (none) else ((label_Name.f k (⟨#[]⟩ : ByteArray)).bind fun t281 => (if t281 = true then (none) else ((label_Right.f k t259).bind fun t282 => (if t282 = true then ((label_Set_With.f k t259 (([(⟨(⟨#[99]⟩ : ByteArray), (⟨#[]⟩ : ByteArray)⟩ : S29)] : List (S29)))).bind fun t286 => (if (t286.length : Int) = 3 then ((label_Order.f k t259 ([] : List (S29))).bind fun t289 => (some (t289 == 1))) else (none))) else (none))))))) else (none)))) else (none)) else (none)) else (none)))) else (none)) else (none)) else (none))))) else (none)) = some r := H
 have A4 := Aside0.mk A40
 clear A40
 by_cases c5 : t266.size + 1 ≤ 9223372036854775807
 ·rw [if_pos c5] at H
  have c5b0 := eq_true c5
  have c5b1 : decide (t266.size + 1 ≤ 9223372036854775807) = true := decide_eq_true c5
  try have c5b2 : (9223372036854775807 < t266.size + 1) = False := eq_false (Nat.not_lt.2 c5)
  replace H := Option.bind_eq_some_iff.mp H
  obtain ⟨⟨t267, t268, t269⟩, A60, H⟩ := H
  replace H : ((label_Parse.f k (⟨#[123, 98, 61, 34, 49, 34, 44, 97, 61, 34, 50, 34, 125]⟩ : ByteArray)).bind fun bt272 => ((label_Set_Text.f k t259).bind fun t277 => (if t277.toList = ([123, 97, 61, 34, 49, 34, 44, 98, 61, 34, 51, 34, 125] : List UInt8) then (if t262.toList = ([51] : List UInt8) then (if t263 = true then (if t265 = true then (none) else ((label_Same.f k t259 t267).bind fun t278 => (if t278 = true then (if t268 = 13 then (if t269 = true then (if bt272.2.2 = true then (none) else ((label_Name.f k (⟨#[97, 95, 57]⟩ : ByteArray)).bind fun t279 => (if t279 = true then ((label_Name.f k (⟨#[57, 97]⟩ : ByteArray)).bind fun t280 => (if t280 = true then (none) else ((label_Name.f k (⟨#[]⟩ : ByteArray)).bind fun t281 => (if t281 = true then (none) else ((label_Right.f k t259).bind fun t282 => (if t282 = true then ((label_Set_With.f k t259 (([(⟨(⟨#[99]⟩ : ByteArray), (⟨#[]⟩ : ByteArray)⟩ : S29)] : List (S29)))).bind fun t286 => (if (t286.length : Int) = 3 then ((label_Order.f k t259 ([] : List (S29))).bind fun t289 => (some (t289 == 1))) else (none))) else (none))))))) else (none)))) else (none)) else (none)) else (none)))) else (none)) else (none)) else (none)))) = some r := H
  have A6 := Aside0.mk A60
  clear A60
  replace H := Option.bind_eq_some_iff.mp H
  obtain ⟨⟨t272, t273, t274⟩, A70, H⟩ := H
  replace H : ((label_Set_Text.f k t259).bind fun t277 => (if t277.toList = ([123, 97, 61, 34, 49, 34, 44, 98, 61, 34, 51, 34, 125] : List UInt8) then (if t262.toList = ([51] : List UInt8) then (if t263 = true then (if t265 = true then (none) else ((label_Same.f k t259 t267).bind fun t278 => (if t278 = true then (if t268 = 13 then (if t269 = true then (if t274 = true then (none) else ((label_Name.f k (⟨#[97, 95, 57]⟩ : ByteArray)).bind fun t279 => (if t279 = true then ((label_Name.f k (⟨#[57, 97]⟩ : ByteArray)).bind fun t280 => (if t280 = true then (none) else ((label_Name.f k (⟨#[]⟩ : ByteArray)).bind fun t281 => (if t281 = true then (none) else ((label_Right.f k t259).bind fun t282 => (if t282 = true then ((label_Set_With.f k t259 (([(⟨(⟨#[99]⟩ : ByteArray), (⟨#[]⟩ : ByteArray)⟩ : S29)] : List (S29)))).bind fun t286 => (if (t286.length : Int) = 3 then ((label_Order.f k t259 ([] : List (S29))).bind fun t289 => (some (t289 == 1))) else (none))) else (none))))))) else (none)))) else (none)) else (none)) else (none)))) else (none)) else (none)) else (none))) = some r := H
  have A7 := Aside0.mk A70
  clear A70
  replace H := Option.bind_eq_some_iff.mp H
  obtain ⟨t277, A80, H⟩ := H
  replace H : (if t277.toList = ([123, 97, 61, 34, 49, 34, 44, 98, 61, 34, 51, 34, 125] : List UInt8) then (if t262.toList = ([51] : List UInt8) then (if t263 = true then (if t265 = true then (none) else ((label_Same.f k t259 t267).bind fun t278 => (if t278 = true then (if t268 = 13 then (if t269 = true then (if t274 = true then (none) else ((label_Name.f k (⟨#[97, 95, 57]⟩ : ByteArray)).bind fun t279 => (if t279 = true then ((label_Name.f k (⟨#[57, 97]⟩ : ByteArray)).bind fun t280 => (if t280 = true then (none) else ((label_Name.f k (⟨#[]⟩ : ByteArray)).bind fun t281 => (if t281 = true then (none) else ((label_Right.f k t259).bind fun t282 => (if t282 = true then ((label_Set_With.f k t259 (([(⟨(⟨#[99]⟩ : ByteArray), (⟨#[]⟩ : ByteArray)⟩ : S29)] : List (S29)))).bind fun t286 => (if (t286.length : Int) = 3 then ((label_Order.f k t259 ([] : List (S29))).bind fun t289 => (some (t289 == 1))) else (none))) else (none))))))) else (none)))) else (none)) else (none)) else (none)))) else (none)) else (none)) else (none)) = some r := H
  have A8 := Aside0.mk A80
  clear A80
  by_cases c9 : t277.toList = ([123, 97, 61, 34, 49, 34, 44, 98, 61, 34, 51, 34, 125] : List UInt8)
  ·rw [if_pos c9] at H
   have c9b0 : (t277.toList == ([123, 97, 61, 34, 49, 34, 44, 98, 61, 34, 51, 34, 125] : List UInt8)) = true := beq_iff_eq.mpr c9
   have c9b1 : (t277.toList != ([123, 97, 61, 34, 49, 34, 44, 98, 61, 34, 51, 34, 125] : List UInt8)) = false := bne_eq_false_iff_eq.mpr c9
   clear c9
   by_cases c10 : t262.toList = ([51] : List UInt8)
   ·rw [if_pos c10] at H
    have c10b0 : (t262.toList == ([51] : List UInt8)) = true := beq_iff_eq.mpr c10
    have c10b1 : (t262.toList != ([51] : List UInt8)) = false := bne_eq_false_iff_eq.mpr c10
    clear c10
    by_cases c11 : t263 = true
    ·subst c11
     have H1 : (if t265 = true then (none) else ((label_Same.f k t259 t267).bind fun t278 => (if t278 = true then (if t268 = 13 then (if t269 = true then (if t274 = true then (none) else ((label_Name.f k (⟨#[97, 95, 57]⟩ : ByteArray)).bind fun t279 => (if t279 = true then ((label_Name.f k (⟨#[57, 97]⟩ : ByteArray)).bind fun t280 => (if t280 = true then (none) else ((label_Name.f k (⟨#[]⟩ : ByteArray)).bind fun t281 => (if t281 = true then (none) else ((label_Right.f k t259).bind fun t282 => (if t282 = true then ((label_Set_With.f k t259 (([(⟨(⟨#[99]⟩ : ByteArray), (⟨#[]⟩ : ByteArray)⟩ : S29)] : List (S29)))).bind fun t286 => (if (t286.length : Int) = 3 then ((label_Order.f k t259 ([] : List (S29))).bind fun t289 => (some (t289 == 1))) else (none))) else (none))))))) else (none)))) else (none)) else (none)) else (none)))) = some r := by rw [if_pos rfl] at H; exact H
     clear H
     have H := H1
     clear H1
     by_cases c12 : t265 = true
     ·subst c12
      have H1 : (none) = some r := by rw [if_pos rfl] at H; exact H
      clear H
      have H := H1
      clear H1
      exact absurd H (by simp)
     ·replace c12 := Bool.eq_false_iff.mpr c12
      subst c12
      have H1 : ((label_Same.f k t259 t267).bind fun t278 => (if t278 = true then (if t268 = 13 then (if t269 = true then (if t274 = true then (none) else ((label_Name.f k (⟨#[97, 95, 57]⟩ : ByteArray)).bind fun t279 => (if t279 = true then ((label_Name.f k (⟨#[57, 97]⟩ : ByteArray)).bind fun t280 => (if t280 = true then (none) else ((label_Name.f k (⟨#[]⟩ : ByteArray)).bind fun t281 => (if t281 = true then (none) else ((label_Right.f k t259).bind fun t282 => (if t282 = true then ((label_Set_With.f k t259 (([(⟨(⟨#[99]⟩ : ByteArray), (⟨#[]⟩ : ByteArray)⟩ : S29)] : List (S29)))).bind fun t286 => (if (t286.length : Int) = 3 then ((label_Order.f k t259 ([] : List (S29))).bind fun t289 => (some (t289 == 1))) else (none))) else (none))))))) else (none)))) else (none)) else (none)) else (none))) = some r := by rw [if_neg (show ¬ (false = true) by decide)] at H; exact H
      clear H
      have H := H1
      clear H1
      replace H := Option.bind_eq_some_iff.mp H
      obtain ⟨t278, A130, H⟩ := H
      replace H : (if t278 = true then (if t268 = 13 then (if t269 = true then (if t274 = true then (none) else ((label_Name.f k (⟨#[97, 95, 57]⟩ : ByteArray)).bind fun t279 => (if t279 = true then ((label_Name.f k (⟨#[57, 97]⟩ : ByteArray)).bind fun t280 => (if t280 = true then (none) else ((label_Name.f k (⟨#[]⟩ : ByteArray)).bind fun t281 => (if t281 = true then (none) else ((label_Right.f k t259).bind fun t282 => (if t282 = true then ((label_Set_With.f k t259 (([(⟨(⟨#[99]⟩ : ByteArray), (⟨#[]⟩ : ByteArray)⟩ : S29)] : List (S29)))).bind fun t286 => (if (t286.length : Int) = 3 then ((label_Order.f k t259 ([] : List (S29))).bind fun t289 => (some (t289 == 1))) else (none))) else (none))))))) else (none)))) else (none)) else (none)) else (none)) = some r := H
      have A13 := Aside0.mk A130
      clear A130
      by_cases c14 : t278 = true
      ·subst c14
       have H1 : (if t268 = 13 then (if t269 = true then (if t274 = true then (none) else ((label_Name.f k (⟨#[97, 95, 57]⟩ : ByteArray)).bind fun t279 => (if t279 = true then ((label_Name.f k (⟨#[57, 97]⟩ : ByteArray)).bind fun t280 => (if t280 = true then (none) else ((label_Name.f k (⟨#[]⟩ : ByteArray)).bind fun t281 => (if t281 = true then (none) else ((label_Right.f k t259).bind fun t282 => (if t282 = true then ((label_Set_With.f k t259 (([(⟨(⟨#[99]⟩ : ByteArray), (⟨#[]⟩ : ByteArray)⟩ : S29)] : List (S29)))).bind fun t286 => (if (t286.length : Int) = 3 then ((label_Order.f k t259 ([] : List (S29))).bind fun t289 => (some (t289 == 1))) else (none))) else (none))))))) else (none)))) else (none)) else (none)) = some r := by rw [if_pos rfl] at H; exact H
       clear H
       have H := H1
       clear H1
       by_cases c15 : t268 = 13
       ·rw [if_pos c15] at H
        have c15b0 : (t268 == 13) = true := beq_iff_eq.mpr c15
        have c15b1 : (t268 != 13) = false := bne_eq_false_iff_eq.mpr c15
        clear c15
        by_cases c16 : t269 = true
        ·subst c16
         have H1 : (if t274 = true then (none) else ((label_Name.f k (⟨#[97, 95, 57]⟩ : ByteArray)).bind fun t279 => (if t279 = true then ((label_Name.f k (⟨#[57, 97]⟩ : ByteArray)).bind fun t280 => (if t280 = true then (none) else ((label_Name.f k (⟨#[]⟩ : ByteArray)).bind fun t281 => (if t281 = true then (none) else ((label_Right.f k t259).bind fun t282 => (if t282 = true then ((label_Set_With.f k t259 (([(⟨(⟨#[99]⟩ : ByteArray), (⟨#[]⟩ : ByteArray)⟩ : S29)] : List (S29)))).bind fun t286 => (if (t286.length : Int) = 3 then ((label_Order.f k t259 ([] : List (S29))).bind fun t289 => (some (t289 == 1))) else (none))) else (none))))))) else (none)))) = some r := by rw [if_pos rfl] at H; exact H
         clear H
         have H := H1
         clear H1
         by_cases c17 : t274 = true
         ·subst c17
          have H1 : (none) = some r := by rw [if_pos rfl] at H; exact H
          clear H
          have H := H1
          clear H1
          exact absurd H (by simp)
         ·replace c17 := Bool.eq_false_iff.mpr c17
          subst c17
          have H1 : ((label_Name.f k (⟨#[97, 95, 57]⟩ : ByteArray)).bind fun t279 => (if t279 = true then ((label_Name.f k (⟨#[57, 97]⟩ : ByteArray)).bind fun t280 => (if t280 = true then (none) else ((label_Name.f k (⟨#[]⟩ : ByteArray)).bind fun t281 => (if t281 = true then (none) else ((label_Right.f k t259).bind fun t282 => (if t282 = true then ((label_Set_With.f k t259 (([(⟨(⟨#[99]⟩ : ByteArray), (⟨#[]⟩ : ByteArray)⟩ : S29)] : List (S29)))).bind fun t286 => (if (t286.length : Int) = 3 then ((label_Order.f k t259 ([] : List (S29))).bind fun t289 => (some (t289 == 1))) else (none))) else (none))))))) else (none))) = some r := by rw [if_neg (show ¬ (false = true) by decide)] at H; exact H
          clear H
          have H := H1
          clear H1
          replace H := Option.bind_eq_some_iff.mp H
          obtain ⟨t279, A180, H⟩ := H
          replace H : (if t279 = true then ((label_Name.f k (⟨#[57, 97]⟩ : ByteArray)).bind fun t280 => (if t280 = true then (none) else ((label_Name.f k (⟨#[]⟩ : ByteArray)).bind fun t281 => (if t281 = true then (none) else ((label_Right.f k t259).bind fun t282 => (if t282 = true then ((label_Set_With.f k t259 (([(⟨(⟨#[99]⟩ : ByteArray), (⟨#[]⟩ : ByteArray)⟩ : S29)] : List (S29)))).bind fun t286 => (if (t286.length : Int) = 3 then ((label_Order.f k t259 ([] : List (S29))).bind fun t289 => (some (t289 == 1))) else (none))) else (none))))))) else (none)) = some r := H
          have A18 := Aside0.mk A180
          clear A180
          by_cases c19 : t279 = true
          ·subst c19
           have H1 : ((label_Name.f k (⟨#[57, 97]⟩ : ByteArray)).bind fun t280 => (if t280 = true then (none) else ((label_Name.f k (⟨#[]⟩ : ByteArray)).bind fun t281 => (if t281 = true then (none) else ((label_Right.f k t259).bind fun t282 => (if t282 = true then ((label_Set_With.f k t259 (([(⟨(⟨#[99]⟩ : ByteArray), (⟨#[]⟩ : ByteArray)⟩ : S29)] : List (S29)))).bind fun t286 => (if (t286.length : Int) = 3 then ((label_Order.f k t259 ([] : List (S29))).bind fun t289 => (some (t289 == 1))) else (none))) else (none))))))) = some r := by rw [if_pos rfl] at H; exact H
           clear H
           have H := H1
           clear H1
           replace H := Option.bind_eq_some_iff.mp H
           obtain ⟨t280, A200, H⟩ := H
           replace H : (if t280 = true then (none) else ((label_Name.f k (⟨#[]⟩ : ByteArray)).bind fun t281 => (if t281 = true then (none) else ((label_Right.f k t259).bind fun t282 => (if t282 = true then ((label_Set_With.f k t259 (([(⟨(⟨#[99]⟩ : ByteArray), (⟨#[]⟩ : ByteArray)⟩ : S29)] : List (S29)))).bind fun t286 => (if (t286.length : Int) = 3 then ((label_Order.f k t259 ([] : List (S29))).bind fun t289 => (some (t289 == 1))) else (none))) else (none)))))) = some r := H
           have A20 := Aside0.mk A200
           clear A200
           by_cases c21 : t280 = true
           ·subst c21
            have H1 : (none) = some r := by rw [if_pos rfl] at H; exact H
            clear H
            have H := H1
            clear H1
            exact absurd H (by simp)
           ·replace c21 := Bool.eq_false_iff.mpr c21
            subst c21
            have H1 : ((label_Name.f k (⟨#[]⟩ : ByteArray)).bind fun t281 => (if t281 = true then (none) else ((label_Right.f k t259).bind fun t282 => (if t282 = true then ((label_Set_With.f k t259 (([(⟨(⟨#[99]⟩ : ByteArray), (⟨#[]⟩ : ByteArray)⟩ : S29)] : List (S29)))).bind fun t286 => (if (t286.length : Int) = 3 then ((label_Order.f k t259 ([] : List (S29))).bind fun t289 => (some (t289 == 1))) else (none))) else (none))))) = some r := by rw [if_neg (show ¬ (false = true) by decide)] at H; exact H
            clear H
            have H := H1
            clear H1
            replace H := Option.bind_eq_some_iff.mp H
            obtain ⟨t281, A220, H⟩ := H
            replace H : (if t281 = true then (none) else ((label_Right.f k t259).bind fun t282 => (if t282 = true then ((label_Set_With.f k t259 (([(⟨(⟨#[99]⟩ : ByteArray), (⟨#[]⟩ : ByteArray)⟩ : S29)] : List (S29)))).bind fun t286 => (if (t286.length : Int) = 3 then ((label_Order.f k t259 ([] : List (S29))).bind fun t289 => (some (t289 == 1))) else (none))) else (none)))) = some r := H
            have A22 := Aside0.mk A220
            clear A220
            by_cases c23 : t281 = true
            ·subst c23
             have H1 : (none) = some r := by rw [if_pos rfl] at H; exact H
             clear H
             have H := H1
             clear H1
             exact absurd H (by simp)
            ·replace c23 := Bool.eq_false_iff.mpr c23
             subst c23
             have H1 : ((label_Right.f k t259).bind fun t282 => (if t282 = true then ((label_Set_With.f k t259 (([(⟨(⟨#[99]⟩ : ByteArray), (⟨#[]⟩ : ByteArray)⟩ : S29)] : List (S29)))).bind fun t286 => (if (t286.length : Int) = 3 then ((label_Order.f k t259 ([] : List (S29))).bind fun t289 => (some (t289 == 1))) else (none))) else (none))) = some r := by rw [if_neg (show ¬ (false = true) by decide)] at H; exact H
             clear H
             have H := H1
             clear H1
             replace H := Option.bind_eq_some_iff.mp H
             obtain ⟨t282, A240, H⟩ := H
             replace H : (if t282 = true then ((label_Set_With.f k t259 (([(⟨(⟨#[99]⟩ : ByteArray), (⟨#[]⟩ : ByteArray)⟩ : S29)] : List (S29)))).bind fun t286 => (if (t286.length : Int) = 3 then ((label_Order.f k t259 ([] : List (S29))).bind fun t289 => (some (t289 == 1))) else (none))) else (none)) = some r := H
             have A24 := Aside0.mk A240
             clear A240
             by_cases c25 : t282 = true
             ·subst c25
              have H1 : ((label_Set_With.f k t259 (([(⟨(⟨#[99]⟩ : ByteArray), (⟨#[]⟩ : ByteArray)⟩ : S29)] : List (S29)))).bind fun t286 => (if (t286.length : Int) = 3 then ((label_Order.f k t259 ([] : List (S29))).bind fun t289 => (some (t289 == 1))) else (none))) = some r := by rw [if_pos rfl] at H; exact H
              clear H
              have H := H1
              clear H1
              obtain ⟨y283, hy283⟩ : ∃ y_ : List (S29), y_ = (([(⟨(⟨#[99]⟩ : ByteArray), (⟨#[]⟩ : ByteArray)⟩ : S29)] : List (S29))) := ⟨_, rfl⟩
              replace H : ((label_Set_With.f k t259 y283).bind fun t286 => (if (t286.length : Int) = 3 then ((label_Order.f k t259 ([] : List (S29))).bind fun t289 => (some (t289 == 1))) else (none))) = some r := by first | (rw [hy283]; with_reducible exact H) | (have H2_ := (Option.bind_some _ _).symm.trans H; rw [hy283]; with_reducible exact H2_) | (have H2_ := (Option.bind_some _ _).symm.trans H; with_reducible exact H2_) | with_reducible exact H | (rw [hy283]; exact H) | exact H
              have Ny283 := Aside0.mk hy283
              clear hy283
              replace H := Option.bind_eq_some_iff.mp H
              obtain ⟨t286, A260, H⟩ := H
              replace H : (if (t286.length : Int) = 3 then ((label_Order.f k t259 ([] : List (S29))).bind fun t289 => (some (t289 == 1))) else (none)) = some r := H
              have A26 := Aside0.mk A260
              clear A260
              by_cases c27 : (t286.length : Int) = 3
              ·rw [if_pos c27] at H
               have c27b0 : ((t286.length : Int) == 3) = true := beq_iff_eq.mpr c27
               have c27b1 : ((t286.length : Int) != 3) = false := bne_eq_false_iff_eq.mpr c27
               clear c27
               replace H := Option.bind_eq_some_iff.mp H
               obtain ⟨t289, A280, H⟩ := H
               replace H : (some (t289 == 1)) = some r := H
               have A28 := Aside0.mk A280
               clear A280
               obtain rfl := Option.some.inj H
               go_enter Try.func15, Try.ntmps15
               go_wp2_with (first | ((with_reducible refine gate_dst (N := 16) rfl ?_); (try (refine gate_guard (by rfl) ?_; dsimp only)); refine Kd.R_lit k29 _ 29 ?hg (N := 16) ?hd (xs := ([(⟨(⟨#[98]⟩ : ByteArray), (⟨#[50]⟩ : ByteArray)⟩ : S29), (⟨(⟨#[97]⟩ : ByteArray), (⟨#[49]⟩ : ByteArray)⟩ : S29), (⟨(⟨#[98]⟩ : ByteArray), (⟨#[51]⟩ : ByteArray)⟩ : S29), (⟨(⟨#[57]⟩ : ByteArray), (⟨#[]⟩ : ByteArray)⟩ : S29)] : List (S29))) (inner := [.string (⟨#[98]⟩ : ByteArray), .string (⟨#[50]⟩ : ByteArray), .string (⟨#[97]⟩ : ByteArray), .string (⟨#[49]⟩ : ByteArray), .string (⟨#[98]⟩ : ByteArray), .string (⟨#[51]⟩ : ByteArray), .string (⟨#[57]⟩ : ByteArray), .string (⟨#[]⟩ : ByteArray)]) (ok := fun _ => True) (okp := fun _ => True) ?hr ?hp (fun _ hk => hk) trivial (Below.refl _ _) (Nat.le_refl _) (by simp) ?_; (case hd => rfl); (case hg => rfl); (case hr => first | (go_simp; done) | (go_simp; rfl)); (case hp => exact (Reps.c2 (show Kd.M k29 _ _ _ (⟨(⟨#[98]⟩ : ByteArray), (⟨#[50]⟩ : ByteArray)⟩ : S29) [.string (⟨#[98]⟩ : ByteArray), .string (⟨#[50]⟩ : ByteArray)] from (k29_mkM _ _ _ (⟨(⟨#[98]⟩ : ByteArray), (⟨#[50]⟩ : ByteArray)⟩ : S29) )) (Reps.c2 (show Kd.M k29 _ _ _ (⟨(⟨#[97]⟩ : ByteArray), (⟨#[49]⟩ : ByteArray)⟩ : S29) [.string (⟨#[97]⟩ : ByteArray), .string (⟨#[49]⟩ : ByteArray)] from (k29_mkM _ _ _ (⟨(⟨#[97]⟩ : ByteArray), (⟨#[49]⟩ : ByteArray)⟩ : S29) )) (Reps.c2 (show Kd.M k29 _ _ _ (⟨(⟨#[98]⟩ : ByteArray), (⟨#[51]⟩ : ByteArray)⟩ : S29) [.string (⟨#[98]⟩ : ByteArray), .string (⟨#[51]⟩ : ByteArray)] from (k29_mkM _ _ _ (⟨(⟨#[98]⟩ : ByteArray), (⟨#[51]⟩ : ByteArray)⟩ : S29) )) (Reps.c2 (show Kd.M k29 _ _ _ (⟨(⟨#[57]⟩ : ByteArray), (⟨#[]⟩ : ByteArray)⟩ : S29) [.string (⟨#[57]⟩ : ByteArray), .string (⟨#[]⟩ : ByteArray)] from (k29_mkM _ _ _ (⟨(⟨#[57]⟩ : ByteArray), (⟨#[]⟩ : ByteArray)⟩ : S29) )) (Reps.none _ _)))))); intro v257 w29 ho30 hb hg_ hnew_; clear hg_ hnew_; (first | rw [← Ny256.out] at ho30 | (simp only [Int.reduceToNat] at ho30; rw [← Ny256.out] at ho30)); have n0_ := Aside0.mk (Kd.R_lower ho30 (below_size bl)); have n1_ := Aside0.mk (below_step bl hb); clear HB; have HO258 := n0_; have HB := n1_; clear n0_ n1_; clear hb ho30; obtain ⟨Ao31, co31, eo31⟩ := Kd.R_slice HO258.out; subst eo31) | ((with_reducible refine gate_callee (f := 21) rfl ?_); refine goesL_ (some 17) rfl rfl Try.func21 (by kernel_rfl) rfl #[.slice Ao31 y256.length co31] rfl ml ?_; (with_reducible refine (label_Of.calls k _ _ y256 t259 _ ?side1 ?side2 A1.out).mono ?_); (case side1 => exact cz (Kd.R_reads' HO258.out).2.2); (case side2 => exact (Kd.R_reads' HO258.out).2.1); rintro e w32 ⟨v260, rfl, ho0, hb⟩; refine ⟨_, rfl, ?_⟩; have n0_ := Aside0.mk (Kd.R_elder' (rz HO258.out) (Kd.R_base ho0) hb); have n1_ := Aside0.mk (Kd.R_lower (Kd.R_new' ho0 (Kd.R_lt (rz HO258.out))) (below_size bl)); have n2_ := Aside0.mk (below_step bl hb); clear HO258; clear HB; have HO258 := n0_; have HO261 := n1_; have HB := n2_; clear n0_ n1_ n2_; (try clear hb); (try clear hb2); (try clear hk); (try clear hi); (try clear ho0); obtain ⟨Ao33, co33, eo33⟩ := Kd.R_slice HO261.out; subst eo33) | ((with_reducible refine gate_callee (f := 18) rfl ?_); refine goesL_ (some 20) rfl rfl Try.func18 (by kernel_rfl) rfl #[.slice Ao33 t259.length co33, .string (⟨#[98]⟩ : ByteArray)] rfl ml ?_; (with_reducible refine (label_Set_Get.calls k _ _ t259 (⟨#[98]⟩ : ByteArray) t262 true _ ?side1 ?side2 A2.out).mono ?_); (case side1 => exact cz (Kd.R_reads' HO261.out).2.2); (case side2 => exact (Kd.R_reads' HO261.out).2.1); rintro e w34 ⟨rfl, hb⟩; refine ⟨_, rfl, ?_⟩; have n0_ := Aside0.mk (Kd.R_below (rz HO258.out) hb); have n1_ := Aside0.mk (Kd.R_below (rz HO261.out) hb); have n2_ := Aside0.mk (below_step bl hb); clear HO258; clear HO261; clear HB; have HO258 := n0_; have HO261 := n1_; have HB := n2_; clear n0_ n1_ n2_; (try clear hb); (try clear hb2); (try clear hk); (try clear hi)) | ((with_reducible refine gate_callee (f := 18) rfl ?_); refine goesL_ (some 25) rfl rfl Try.func18 (by kernel_rfl) rfl #[.slice Ao33 t259.length co33, .string (⟨#[99]⟩ : ByteArray)] rfl ml ?_; (with_reducible refine (label_Set_Get.calls k _ _ t259 (⟨#[99]⟩ : ByteArray) t264 false _ ?side1 ?side2 A3.out).mono ?_); (case side1 => exact cz (Kd.R_reads' HO261.out).2.2); (case side2 => exact (Kd.R_reads' HO261.out).2.1); rintro e w35 ⟨rfl, hb⟩; refine ⟨_, rfl, ?_⟩; have n0_ := Aside0.mk (Kd.R_below (rz HO258.out) hb); have n1_ := Aside0.mk (Kd.R_below (rz HO261.out) hb); have n2_ := Aside0.mk (below_step bl hb); clear HO258; clear HO261; clear HB; have HO258 := n0_; have HO261 := n1_; have HB := n2_; clear n0_ n1_ n2_; (try clear hb); (try clear hb2); (try clear hk); (try clear hi)) | ((with_reducible refine gate_callee (f := 29) rfl ?_); refine goesL_ (some 30) rfl rfl Try.func29 (by kernel_rfl) rfl #[.slice Ao33 t259.length co33] rfl ml ?_; (with_reducible refine (label_Set_Text.calls k _ _ t259 t266 _ ?side1 ?side2 A4.out).mono ?_); (case side1 => exact cz (Kd.R_reads' HO261.out).2.2); (case side2 => exact (Kd.R_reads' HO261.out).2.1); rintro e w36 ⟨rfl, hb⟩; refine ⟨_, rfl, ?_⟩; have n0_ := Aside0.mk (Kd.R_below (rz HO258.out) hb); have n1_ := Aside0.mk (Kd.R_below (rz HO261.out) hb); have n2_ := Aside0.mk (below_step bl hb); clear HO258; clear HO261; clear HB; have HO258 := n0_; have HO261 := n1_; have HB := n2_; clear n0_ n1_ n2_; (try clear hb); (try clear hb2); (try clear hk); (try clear hi)) | ((with_reducible refine gate_callee (f := 35) rfl ?_); refine goesL_ (some 32) rfl rfl Try.func35 (by kernel_rfl) rfl #[.string (t266 ++ (⟨#[120]⟩ : ByteArray))] rfl ml ?_; (with_reducible refine (label_Parse.calls k (t266 ++ (⟨#[120]⟩ : ByteArray)) t267 t268 true _ A6.out).mono ?_); rintro e w37 ⟨v270, rfl, ho0, hb⟩; refine ⟨_, rfl, ?_⟩; have n0_ := Aside0.mk (Kd.R_elder' (rz HO258.out) (Kd.R_base ho0) hb); have n1_ := Aside0.mk (Kd.R_elder' (rz HO261.out) (Kd.R_base ho0) hb); have n2_ := Aside0.mk (Kd.R_lower (Kd.R_new' (Kd.R_new' ho0 (Kd.R_lt (rz HO258.out))) (Kd.R_lt (rz HO261.out))) (below_size bl)); have n3_ := Aside0.mk (below_step bl hb); clear HO258; clear HO261; clear HB; have HO258 := n0_; have HO261 := n1_; have HO271 := n2_; have HB := n3_; clear n0_ n1_ n2_ n3_; (try clear hb); (try clear hb2); (try clear hk); (try clear hi); (try clear ho0)) | ((with_reducible refine gate_callee (f := 35) rfl ?_); refine goesL_ (some 37) rfl rfl Try.func35 (by kernel_rfl) rfl #[.string (⟨#[123, 98, 61, 34, 49, 34, 44, 97, 61, 34, 50, 34, 125]⟩ : ByteArray)] rfl ml ?_; (with_reducible refine (label_Parse.calls k (⟨#[123, 98, 61, 34, 49, 34, 44, 97, 61, 34, 50, 34, 125]⟩ : ByteArray) t272 t273 false _ A7.out).mono ?_); rintro e w38 ⟨v275, rfl, ho0, hb⟩; refine ⟨_, rfl, ?_⟩; have n0_ := Aside0.mk (Kd.R_elder' (rz HO258.out) (Kd.R_base ho0) hb); have n1_ := Aside0.mk (Kd.R_elder' (rz HO261.out) (Kd.R_base ho0) hb); have n2_ := Aside0.mk (Kd.R_elder' (rz HO271.out) (Kd.R_base ho0) hb); have n3_ := Aside0.mk (Kd.R_lower (Kd.R_new' (Kd.R_new' (Kd.R_new' ho0 (Kd.R_lt (rz HO258.out))) (Kd.R_lt (rz HO261.out))) (Kd.R_lt (rz HO271.out))) (below_size bl)); have n4_ := Aside0.mk (below_step bl hb); clear HO258; clear HO261; clear HO271; clear HB; have HO258 := n0_; have HO261 := n1_; have HO271 := n2_; have HO276 := n3_; have HB := n4_; clear n0_ n1_ n2_ n3_ n4_; (try clear hb); (try clear hb2); (try clear hk); (try clear hi); (try clear ho0)) | ((with_reducible refine gate_callee (f := 29) rfl ?_); refine goesL_ (some 42) rfl rfl Try.func29 (by kernel_rfl) rfl #[.slice Ao33 t259.length co33] rfl ml ?_; (with_reducible refine (label_Set_Text.calls k _ _ t259 t277 _ ?side1 ?side2 A8.out).mono ?_); (case side1 => exact cz (Kd.R_reads' HO261.out).2.2); (case side2 => exact (Kd.R_reads' HO261.out).2.1); rintro e w39 ⟨rfl, hb⟩; refine ⟨_, rfl, ?_⟩; have n0_ := Aside0.mk (Kd.R_below (rz HO258.out) hb); have n1_ := Aside0.mk (Kd.R_below (rz HO261.out) hb); have n2_ := Aside0.mk (Kd.R_below (rz HO271.out) hb); have n3_ := Aside0.mk (Kd.R_below (rz HO276.out) hb); have n4_ := Aside0.mk (below_step bl hb); clear HO258; clear HO261; clear HO271; clear HO276; clear HB; have HO258 := n0_; have HO261 := n1_; have HO271 := n2_; have HO276 := n3_; have HB := n4_; clear n0_ n1_ n2_ n3_ n4_; (try clear hb); (try clear hb2); (try clear hk); (try clear hi); obtain ⟨Ao40, co40, eo40⟩ := Kd.R_slice HO271.out; subst eo40) | (go_at_call 33; (with_reducible refine (label_Same.calls k _ _ t259 _ _ t267 true _ ?side1 ?side2 ?side3 ?side4 A13.out).mono ?_); (case side1 => exact cz (Kd.R_reads' HO261.out).2.2); (case side2 => exact (Kd.R_reads' HO261.out).2.1); (case side3 => exact cz (Kd.R_reads' HO271.out).2.2); (case side4 => exact (Kd.R_reads' HO271.out).2.1); rintro e w' ⟨rfl, ⟨nd, rfl⟩⟩) | (go_at_call 25; (with_reducible refine (label_Name.calls k (⟨#[97, 95, 57]⟩ : ByteArray) true _ A18.out).mono ?_); rintro e w41 ⟨rfl, hb⟩; have n0_ := Aside0.mk (Kd.R_below (rz HO258.out) hb); have n1_ := Aside0.mk (Kd.R_below (rz HO261.out) hb); have n2_ := Aside0.mk (Kd.R_below (rz HO271.out) hb); have n3_ := Aside0.mk (Kd.R_below (rz HO276.out) hb); have n4_ := Aside0.mk (below_step bl hb); clear HO258; clear HO261; clear HO271; clear HO276; clear HB; have HO258 := n0_; have HO261 := n1_; have HO271 := n2_; have HO276 := n3_; have HB := n4_; clear n0_ n1_ n2_ n3_ n4_; (try clear hb); (try clear hb2); (try clear hk); (try clear hi)) | (go_at_call 25; (with_reducible refine (label_Name.calls k (⟨#[57, 97]⟩ : ByteArray) false _ A20.out).mono ?_); rintro e w42 ⟨rfl, hb⟩; have n0_ := Aside0.mk (Kd.R_below (rz HO258.out) hb); have n1_ := Aside0.mk (Kd.R_below (rz HO261.out) hb); have n2_ := Aside0.mk (Kd.R_below (rz HO271.out) hb); have n3_ := Aside0.mk (Kd.R_below (rz HO276.out) hb); have n4_ := Aside0.mk (below_step bl hb); clear HO258; clear HO261; clear HO271; clear HO276; clear HB; have HO258 := n0_; have HO261 := n1_; have HO271 := n2_; have HO276 := n3_; have HB := n4_; clear n0_ n1_ n2_ n3_ n4_; (try clear hb); (try clear hb2); (try clear hk); (try clear hi)) | (go_at_call 25; (with_reducible refine (label_Name.calls k (⟨#[]⟩ : ByteArray) false _ A22.out).mono ?_); rintro e w43 ⟨rfl, hb⟩; have n0_ := Aside0.mk (Kd.R_below (rz HO258.out) hb); have n1_ := Aside0.mk (Kd.R_below (rz HO261.out) hb); have n2_ := Aside0.mk (Kd.R_below (rz HO271.out) hb); have n3_ := Aside0.mk (Kd.R_below (rz HO276.out) hb); have n4_ := Aside0.mk (below_step bl hb); clear HO258; clear HO261; clear HO271; clear HO276; clear HB; have HO258 := n0_; have HO261 := n1_; have HO271 := n2_; have HO276 := n3_; have HB := n4_; clear n0_ n1_ n2_ n3_ n4_; (try clear hb); (try clear hb2); (try clear hk); (try clear hi)) | (go_at_call 27; (with_reducible refine (label_Right.calls k _ _ t259 true _ ?side1 ?side2 A24.out).mono ?_); (case side1 => exact cz (Kd.R_reads' HO261.out).2.2); (case side2 => exact (Kd.R_reads' HO261.out).2.1); rintro e w44 ⟨rfl, hb⟩; have n0_ := Aside0.mk (Kd.R_below (rz HO258.out) hb); have n1_ := Aside0.mk (Kd.R_below (rz HO261.out) hb); have n2_ := Aside0.mk (Kd.R_below (rz HO271.out) hb); have n3_ := Aside0.mk (Kd.R_below (rz HO276.out) hb); have n4_ := Aside0.mk (below_step bl hb); clear HO258; clear HO261; clear HO271; clear HO276; clear HB; have HO258 := n0_; have HO261 := n1_; have HO271 := n2_; have HO276 := n3_; have HB := n4_; clear n0_ n1_ n2_ n3_ n4_; (try clear hb); (try clear hb2); (try clear hk); (try clear hi)) | ((with_reducible refine gate_dst (N := 89) rfl ?_); (try (refine gate_guard (by rfl) ?_; dsimp only)); refine Kd.R_lit k29 _ 29 ?hg (N := 89) ?hd (xs := ([(⟨(⟨#[99]⟩ : ByteArray), (⟨#[]⟩ : ByteArray)⟩ : S29)] : List (S29))) (inner := [.string (⟨#[99]⟩ : ByteArray), .string (⟨#[]⟩ : ByteArray)]) (ok := fun _ => True) (okp := fun _ => True) ?hr ?hp (fun _ hk => hk) trivial (Below.refl _ _) (Nat.le_refl _) (by simp) ?_; (case hd => rfl); (case hg => rfl); (case hr => first | (go_simp; done) | (go_simp; rfl)); (case hp => exact (Reps.c2 (show Kd.M k29 _ _ _ (⟨(⟨#[99]⟩ : ByteArray), (⟨#[]⟩ : ByteArray)⟩ : S29) [.string (⟨#[99]⟩ : ByteArray), .string (⟨#[]⟩ : ByteArray)] from (k29_mkM _ _ _ (⟨(⟨#[99]⟩ : ByteArray), (⟨#[]⟩ : ByteArray)⟩ : S29) )) (Reps.none _ _))); intro v284 w45 ho46 hb hg_ hnew_; clear hg_ hnew_; (first | rw [← Ny283.out] at ho46 | (simp only [Int.reduceToNat] at ho46; rw [← Ny283.out] at ho46)); have n0_ := Aside0.mk (Kd.R_elder' (rz HO258.out) (Kd.R_base ho46) hb); have n1_ := Aside0.mk (Kd.R_elder' (rz HO261.out) (Kd.R_base ho46) hb); have n2_ := Aside0.mk (Kd.R_elder' (rz HO271.out) (Kd.R_base ho46) hb); have n3_ := Aside0.mk (Kd.R_elder' (rz HO276.out) (Kd.R_base ho46) hb); have n4_ := Aside0.mk (Kd.R_lower (Kd.R_new' (Kd.R_new' (Kd.R_new' (Kd.R_new' ho46 (Kd.R_lt (rz HO258.out))) (Kd.R_lt (rz HO261.out))) (Kd.R_lt (rz HO271.out))) (Kd.R_lt (rz HO276.out))) (below_size bl)); have n5_ := Aside0.mk (below_step bl hb); clear HO258; clear HO261; clear HO271; clear HO276; clear HB; have HO258 := n0_; have HO261 := n1_; have HO271 := n2_; have HO276 := n3_; have HO285 := n4_; have HB := n5_; clear n0_ n1_ n2_ n3_ n4_ n5_; clear hb ho46; obtain ⟨Ao47, co47, eo47⟩ := Kd.R_slice HO285.out; subst eo47) | (go_at_call 23; (with_reducible refine (label_Set_With.calls k (fun k_ => some k_ = (.slice Ao33 t259.length co33 : Value).ownBlock) _ _ t259 (fun k_ => some k_ = (.slice Ao47 y283.length co47 : Value).ownBlock) _ _ y283 t286 _ ?side1 ?side2 A26.out).mono ?_); (case side1 => exact Kd.R_V (Kd.R_tight rfl (HO261.out))); (case side2 => exact Kd.R_V (Kd.R_tight rfl (HO285.out))); rintro e w48 ⟨v287, rfl, ho0, hb⟩; have n0_ := Aside0.mk (Kd.R_elder' (rz HO258.out) (Kd.R_base ho0) hb); have n1_ := Aside0.mk (Kd.R_elder' (rz HO261.out) (Kd.R_base ho0) hb); have n2_ := Aside0.mk (Kd.R_elder' (rz HO271.out) (Kd.R_base ho0) hb); have n3_ := Aside0.mk (Kd.R_elder' (rz HO276.out) (Kd.R_base ho0) hb); have n4_ := Aside0.mk (Kd.R_elder' (rz HO285.out) (Kd.R_base ho0) hb); have n5_ := Aside0.mk (Kd.R_lower (Kd.R_new' (Kd.R_new' (Kd.R_new' (Kd.R_new' (Kd.R_new' (Kd.R_mono (ok' := fun k_ => True) ho0 (fun _ hk_ => trivial)) (Kd.R_lt (rz HO258.out))) (Kd.R_lt (rz HO261.out))) (Kd.R_lt (rz HO271.out))) (Kd.R_lt (rz HO276.out))) (Kd.R_lt (rz HO285.out))) (below_size bl)); have n6_ := Aside0.mk (below_step bl hb); clear HO258; clear HO261; clear HO271; clear HO276; clear HO285; clear HB; have HO258 := n0_; have HO261 := n1_; have HO271 := n2_; have HO276 := n3_; have HO285 := n4_; have HO288 := n5_; have HB := n6_; clear n0_ n1_ n2_ n3_ n4_ n5_ n6_; (try clear hb); (try clear hb2); (try clear hk); (try clear hi); (try clear ho0); obtain ⟨Ao49, co49, eo49⟩ := Kd.R_slice HO288.out; subst eo49) | (go_at_call 31; (refine (label_Order.calls k _ _ t259 _ _ ([] : List (S29)) t289 _ ?side1 ?side2 ?side3 ?side4 A28.out).mono ?_); (case side1 => exact cz (Kd.R_reads' HO261.out).2.2); (case side2 => exact (Kd.R_reads' HO261.out).2.1); (case side3 => exact Kd.C_nil _ _); (case side4 => exact Nat.le_refl _); rintro e w50 ⟨rfl, hb⟩; have n0_ := Aside0.mk (Kd.R_below (rz HO258.out) hb); have n1_ := Aside0.mk (Kd.R_below (rz HO261.out) hb); have n2_ := Aside0.mk (Kd.R_below (rz HO271.out) hb); have n3_ := Aside0.mk (Kd.R_below (rz HO276.out) hb); have n4_ := Aside0.mk (Kd.R_below (rz HO285.out) hb); have n5_ := Aside0.mk (Kd.R_below (rz HO288.out) hb); have n6_ := Aside0.mk (below_step bl hb); clear HO258; clear HO261; clear HO271; clear HO276; clear HO285; clear HO288; clear HB; have HO258 := n0_; have HO261 := n1_; have HO271 := n2_; have HO276 := n3_; have HO285 := n4_; have HO288 := n5_; have HB := n6_; clear n0_ n1_ n2_ n3_ n4_ n5_ n6_; (try clear hb); (try clear hb2); (try clear hk); (try clear hi)))
               go_ret
               exact ⟨by first | rfl | (simp [errW_none, errW_some] <;> rfl) | (simp [*, errW_none, errW_some] <;> rfl), bl⟩
              ·rw [if_neg c27] at H
               exact absurd H (by simp)
             ·replace c25 := Bool.eq_false_iff.mpr c25
              subst c25
              have H1 : (none) = some r := by rw [if_neg (show ¬ (false = true) by decide)] at H; exact H
              clear H
              have H := H1
              clear H1
              exact absurd H (by simp)
          ·replace c19 := Bool.eq_false_iff.mpr c19
           subst c19
           have H1 : (none) = some r := by rw [if_neg (show ¬ (false = true) by decide)] at H; exact H
           clear H
           have H := H1
           clear H1
           exact absurd H (by simp)
        ·replace c16 := Bool.eq_false_iff.mpr c16
         subst c16
         have H1 : (none) = some r := by rw [if_neg (show ¬ (false = true) by decide)] at H; exact H
         clear H
         have H := H1
         clear H1
         exact absurd H (by simp)
       ·rw [if_neg c15] at H
        exact absurd H (by simp)
      ·replace c14 := Bool.eq_false_iff.mpr c14
       subst c14
       have H1 : (none) = some r := by rw [if_neg (show ¬ (false = true) by decide)] at H; exact H
       clear H
       have H := H1
       clear H1
       exact absurd H (by simp)
    ·replace c11 := Bool.eq_false_iff.mpr c11
     subst c11
     have H1 : (none) = some r := by rw [if_neg (show ¬ (false = true) by decide)] at H; exact H
     clear H
     have H := H1
     clear H1
     exact absurd H (by simp)
   ·rw [if_neg c10] at H
    exact absurd H (by simp)
  ·rw [if_neg c9] at H
   exact absurd H (by simp)
 ·rw [if_neg c5] at H
  exact absurd H (by simp)

end Go.Proofs.Ytbkhgldinmabiaa.X
