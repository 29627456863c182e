-- Laid by xprint.py, a program of this session's, out of the translation.
import Derived.Test.YtifcnblgpnfehaaX0
import Derived.Test.YtifcnblgpnfehaaX2
import Derived.Test.YtifcnblgpnfehaaX4
namespace Go.Proofs.Ytifcnblgpnfehaa.X
open Go.RowKit Go.Proofs.YtifcnblgpnfehaaW.PrintWords Go.Proofs.YtifcnblgpnfehaaW.PrintLast Go.Proofs.YtifcnblgpnfehaaW.PrintMore
attribute [local go_sem] max2_int min2_int max_two min_two max_three min_three max_four min_four x_isSome   -- for this text's walks alone
set_option linter.unusedVariables false
set_option linter.unusedSimpArgs false

/-! ### quote_Join: function 29 -/
def quote_Join.f (a0 : ByteArray) (l1 : List ByteArray) : Option (ByteArray) := (strings_Join.f l1 a0).bind fun t157 => (some t157)
set_option maxHeartbeats 8000000 in
set_option maxRecDepth 100000 in
theorem quote_Join.calls (a0 : ByteArray) (A1 : Option Addr) (c1 : Nat) (l1 : List ByteArray) (r : ByteArray) (w : World) (hr1 : Kd.C Kd.string w A1 l1.length l1) (hc1 : l1.length ≤ c1) (h : quote_Join.f a0 l1 = some r) :
    Calls Try.prog 29 #[.string a0, .slice A1 l1.length c1] w fun e w' => e = .returned (.string r) ∧ Below w.heap.size w w' := by
  have HR1 := Aside0.mk hr1
  have HC1 := Aside0.mk hc1
  clear hr1 hc1
  have HB := Aside0.mk (Below.refl w.heap.size w)
  have H : ((strings_Join.f l1 a0).bind fun t157 => (some t157)) = some r := h
  clear h
  replace H := Option.bind_eq_some_iff.mp H
  obtain ⟨t157, A30, H⟩ := H
  replace H : (some t157) = some r := H
  have A3 := Aside0.mk A30
  clear A30
  obtain rfl := Option.some.inj H
  go_enter Try.func29, Try.ntmps29
  go_wp2_with (first | ((with_reducible refine gate_callee (f := 40) rfl ?_); refine goesL_ (some 7) rfl rfl Try.func40 (by kernel_rfl) rfl #[.slice A1 l1.length c1, .string a0] rfl (by (try simp only [List.map_toArray, List.map_cons, List.map_nil]); first | done | rfl | (simp only [List.length_drop, List.length_take]; rfl)) ?_; (with_reducible refine (strings_Join.calls _ _ l1 a0 t157 _ ?side1 ?side2 A3.out).mono ?_); (case side1 => repeat (first | exact HR1.out | (with_reducible refine Kd.C_alloc ?_ _) | (with_reducible refine Kd.C_drewN ?_ _) | (with_reducible refine Kd.C_drew ?_))); (case side2 => exact HC1.out); rintro e w4 ⟨rfl, hb⟩; refine ⟨_, rfl, ?_⟩; have n0_ := Aside0.mk (below_step (by repeat (first | (with_reducible first | exact HB.out | apply below_alloc | apply pw_below_drewN | apply below_drew1) | exact HB.out)) hb); clear HB; have HB := n0_; clear n0_; (try clear hb); (try clear hb2); (try clear hk); (try clear hi)))
  go_ret
  exact ⟨by first | rfl | (simp [errW_none, errW_some] <;> rfl) | (simp [*, errW_none, errW_some] <;> rfl), by repeat (first | (with_reducible first | exact HB.out | apply below_alloc | apply pw_below_drewN | apply below_drew1) | exact HB.out)⟩

/-! ### slices_Index_string_string: function 41 -/
def slices_Index_string_string.l0 : Nat → List ByteArray → ByteArray → Int → Int → Option (Int)
  | 0, _, _, _, _ => none
  | k + 1, x0, x1, x7, x8 => if x8 < x7 then (if 0 ≤ x8 then (if x8 < (x0.length : Int) then (if x1.toList = (rdOf ByteArray.empty x0 x8).toList then (some x8) else (slices_Index_string_string.l0 k x0 x1 x7 (wrap64 (x8 + 1)))) else (none)) else (none)) else (some (-1))
def slices_Index_string_string.f (k : Nat) (l0 : List ByteArray) (a1 : ByteArray) : Option (Int) := slices_Index_string_string.l0 k l0 a1 (l0.length : Int) 0
theorem slices_Index_string_string.mono_l : ∀ k, (∀ y0 y1 y2 y3, LeO (slices_Index_string_string.l0 k y0 y1 y2 y3) (slices_Index_string_string.l0 (k + 1) y0 y1 y2 y3))
  | 0 => fun _ _ _ _ r h => by simp [slices_Index_string_string.l0] at h
  | k + 1 => by
    have ih0 := slices_Index_string_string.mono_l k
    · intro y0 y1 y2 y3
      unfold slices_Index_string_string.l0
      repeat' first
      | (with_reducible exact ih0 _ _ _ _)
      | (with_reducible exact LeO.refl _)
      | (with_reducible exact LeO.none _)
      | (with_reducible refine LeO.ite ?_ ?_)
      | (with_reducible refine LeO.bind ?_ (fun _ => ?_))
      | exact ih0 _ _ _ _
      | exact LeO.none _
      | refine LeO.ite ?_ ?_
      | refine LeO.bind ?_ (fun _ => ?_)
theorem slices_Index_string_string.mono : ∀ a0 a1 k, LeO (slices_Index_string_string.f k a0 a1) (slices_Index_string_string.f (k + 1) a0 a1) := by
  intro a0 a1 k
  have ih0 := slices_Index_string_string.mono_l k
  unfold slices_Index_string_string.f
  repeat' first
      | (with_reducible exact ih0 _ _ _ _)
      | (with_reducible exact LeO.refl _)
      | (with_reducible exact LeO.none _)
      | (with_reducible refine LeO.ite ?_ ?_)
      | (with_reducible refine LeO.bind ?_ (fun _ => ?_))
      | exact ih0 _ _ _ _
      | exact LeO.none _
      | refine LeO.ite ?_ ?_
      | refine LeO.bind ?_ (fun _ => ?_)
set_option maxHeartbeats 8000000 in
set_option maxRecDepth 100000 in
theorem slices_Index_string_string.calls (k : Nat) (A0 : Option Addr) (c0 : Nat) (l0 : List ByteArray) (a1 : ByteArray) (r : Int) (w : World) (hr0 : Kd.C Kd.string w A0 l0.length l0) (hc0 : l0.length ≤ c0) (h : slices_Index_string_string.f k l0 a1 = some r) :
    Calls Try.prog 41 #[.slice A0 l0.length c0, .string a1] w fun e w' => e = .returned (.int .i64 r) ∧ Drawn0 w w' := by
  have HR0 := Aside0.mk hr0
  have HC0 := Aside0.mk hc0
  clear hr0 hc0
  have H : (slices_Index_string_string.l0 k l0 a1 (l0.length : Int) 0) = some r := h
  clear h
  have H' := Aside0.mk H
  clear H
  go_enter Try.func41, Try.ntmps41
  go_wp2
  go_loopg [8] k (fun kq v8 w' => ∃ (x8_1 : Int), v8 = .int .i64 x8_1 ∧ Aside0 (slices_Index_string_string.l0 kq l0 a1 (l0.length : Int) x8_1 = some r) ∧ Aside0 (kq ≤ k) ∧ Drawn0 w w')
  case atStart => exact ⟨(0), (by first | rfl | (simp; done) | (simp [*]; done)), H', ⟨Nat.le_refl _⟩, by repeat (first | exact Drawn0.refl _ | apply Drawn0.step)⟩
  case round =>
    clear H'
    try clear p2
    obtain ⟨x8_1, rfl, HA, HK1, ⟨m1, rfl⟩⟩ := hrel
    cases gk with
    | zero => exact absurd HA.out (by simp [slices_Index_string_string.l0])
    | succ k1 =>
      have H := HA.out
      clear HA
      simp only [slices_Index_string_string.l0] at H
      by_cases c3 : x8_1 < (l0.length : Int)
      · rw [if_pos c3] at H
        have c3b0 : decide (x8_1 < (l0.length : Int)) = true := decide_eq_true c3
        clear c3
        by_cases c4 : 0 ≤ x8_1
        · rw [if_pos c4] at H
          have c4b0 : decide (0 ≤ x8_1) = true := decide_eq_true c4
          clear c4
          by_cases c5 : x8_1 < (l0.length : Int)
          · rw [if_pos c5] at H
            have c5b0 : decide (x8_1 < (l0.length : Int)) = true := decide_eq_true c5
            clear c5
            by_cases c6 : a1.toList = (rdOf ByteArray.empty l0 x8_1).toList
            · rw [if_pos c6] at H
              have c6b0 : (a1.toList == (rdOf ByteArray.empty l0 x8_1).toList) = true := beq_iff_eq.mpr c6
              have c6b1 : (a1.toList != (rdOf ByteArray.empty l0 x8_1).toList) = false := bne_eq_false_iff_eq.mpr c6
              clear c6
              obtain rfl := Option.some.inj H
              have p158 : 0 ≤ (x8_1 : Int) := of_decide_eq_true (by first | (with_reducible assumption) | assumption)
              have q158 : x8_1 < (l0.length : Int) := of_decide_eq_true (by first | (with_reducible assumption) | assumption)
              obtain ⟨ad158, e158, hx158_0⟩ := Kd.at_string HR0.out x8_1 p158 q158
              cases e158
              replace p158 := eq_true p158
              replace q158 := eq_true q158
              go_wp2
              go_ret
              exact ⟨by first | rfl | (simp; done) | (simp [*]; done), by repeat (first | exact Drawn0.refl _ | apply Drawn0.step)⟩
            · rw [if_neg c6] at H
              have c6b0 : (a1.toList == (rdOf ByteArray.empty l0 x8_1).toList) = false := beq_eq_false_iff_ne.mpr c6
              have c6b1 : (a1.toList != (rdOf ByteArray.empty l0 x8_1).toList) = true := bne_iff_ne.mpr c6
              have H' := Aside0.mk H
              clear H
              have p158 : 0 ≤ (x8_1 : Int) := of_decide_eq_true (by first | (with_reducible assumption) | assumption)
              have q158 : x8_1 < (l0.length : Int) := of_decide_eq_true (by first | (with_reducible assumption) | assumption)
              obtain ⟨ad158, e158, hx158_0⟩ := Kd.at_string HR0.out x8_1 p158 q158
              cases e158
              replace p158 := eq_true p158
              replace q158 := eq_true q158
              go_wp2
              go_roundg k1
              case measure => have := HK1.out; omega
              case rel => exact ⟨(wrap64 (x8_1 + 1)), (by first | rfl | (simp; done) | (simp [*]; done)), H', ⟨by have := HK1.out; omega⟩, by repeat (first | exact Drawn0.refl _ | apply Drawn0.step)⟩
          · rw [if_neg c5] at H
            exact absurd H (by simp)
        · rw [if_neg c4] at H
          exact absurd H (by simp)
      · rw [if_neg c3] at H
        have c3b0 : decide (x8_1 < (l0.length : Int)) = false := decide_eq_false c3
        clear c3
        obtain rfl := Option.some.inj H
        go_wp2
        go_ret
        exact ⟨by first | rfl | (simp; done) | (simp [*]; done), by repeat (first | exact Drawn0.refl _ | apply Drawn0.step)⟩

/-! ### quote_Among: function 31 -/
def quote_Among.f (k : Nat) (a0 : ByteArray) (l1 : List ByteArray) : Option (Int) := (slices_Index_string_string.f k l1 a0).bind fun t159 => (some t159)
theorem quote_Among.mono : ∀ a0 a1 k, LeO (quote_Among.f k a0 a1) (quote_Among.f (k + 1) a0 a1) := by
  intro a0 a1 k
  unfold quote_Among.f
  repeat' first
      | (with_reducible exact slices_Index_string_string.mono _ _ _)
      | (with_reducible exact LeO.refl _)
      | (with_reducible exact LeO.none _)
      | (with_reducible refine LeO.ite ?_ ?_)
      | (with_reducible refine LeO.bind ?_ (fun _ => ?_))
      | exact slices_Index_string_string.mono _ _ _
      | exact LeO.none _
      | refine LeO.ite ?_ ?_
      | refine LeO.bind ?_ (fun _ => ?_)
set_option maxHeartbeats 8000000 in
set_option maxRecDepth 100000 in
theorem quote_Among.calls (k : Nat) (a0 : ByteArray) (A1 : Option Addr) (c1 : Nat) (l1 : List ByteArray) (r : Int) (w : World) (hr1 : Kd.C Kd.string w A1 l1.length l1) (hc1 : l1.length ≤ c1) (h : quote_Among.f k a0 l1 = some r) :
    Calls Try.prog 31 #[.string a0, .slice A1 l1.length c1] w fun e w' => e = .returned (.int .i64 r) ∧ Drawn0 w w' := by
  have HR1 := Aside0.mk hr1
  have HC1 := Aside0.mk hc1
  clear hr1 hc1
  have H : ((slices_Index_string_string.f k l1 a0).bind fun t159 => (some t159)) = some r := h
  clear h
  replace H := Option.bind_eq_some_iff.mp H
  obtain ⟨t159, A30, H⟩ := H
  replace H : (some t159) = some r := H
  have A3 := Aside0.mk A30
  clear A30
  obtain rfl := Option.some.inj H
  go_enter Try.func31, Try.ntmps31
  go_wp2_with (first | ((with_reducible refine gate_callee (f := 41) rfl ?_); refine goesL_ (some 7) rfl rfl Try.func41 (by kernel_rfl) rfl #[.slice A1 l1.length c1, .string a0] rfl (by (try simp only [List.map_toArray, List.map_cons, List.map_nil]); first | done | rfl | (simp only [List.length_drop, List.length_take]; rfl)) ?_; (with_reducible refine (slices_Index_string_string.calls k _ _ l1 a0 t159 _ ?side1 ?side2 A3.out).mono ?_); (case side1 => repeat (first | exact HR1.out | (with_reducible refine Kd.C_alloc ?_ _) | (with_reducible refine Kd.C_drewN ?_ _) | (with_reducible refine Kd.C_drew ?_))); (case side2 => exact HC1.out); rintro e w' ⟨rfl, ⟨nd, rfl⟩⟩; refine ⟨_, rfl, ?_⟩))
  go_ret
  exact ⟨by first | rfl | (simp; done) | (simp [*]; done), by repeat (first | exact Drawn0.refl _ | apply Drawn0.step)⟩

/-! ### archivistlaw01_examples: function 22 -/
def archivistlaw01_examples.f (k : Nat)  : Option (Bool) := (quote_Get.f k (⟨#[34, 97, 92, 34, 98, 34, 120]⟩ : ByteArray)).bind fun bt160 => ((quote_Get.f k (⟨#[34, 97]⟩ : ByteArray)).bind fun bt163 => ((quote_Cut.f k (⟨#[120, 61, 62, 121]⟩ : ByteArray) (([(⟨#[61]⟩ : ByteArray), (⟨#[61, 62]⟩ : ByteArray)] : List ByteArray))).bind fun bt169 => ((quote_Put.f k (⟨#[97, 10, 34]⟩ : ByteArray)).bind fun t172 => (if t172.toList = ([34, 97, 92, 110, 92, 34, 34] : List UInt8) then ((quote_Put.f k (⟨#[0]⟩ : ByteArray)).bind fun t173 => (if t173.toList = ([34, 92, 120, 48, 48, 34] : List UInt8) then (if bt160.1.toList = ([97, 34, 98] : List UInt8) then (if bt160.2.1 = 6 then (if bt160.2.2 = true then (if bt163.2.2 = true then (none) else ((quote_Join.f (⟨#[44]⟩ : ByteArray) (([(⟨#[97]⟩ : ByteArray), (⟨#[98]⟩ : ByteArray)] : List ByteArray))).bind fun t177 => (if t177.toList = ([97, 44, 98] : List UInt8) then ((quote_Join.f (⟨#[44]⟩ : ByteArray) ([] : List ByteArray)).bind fun t178 => (if t178.toList = ([] : List UInt8) then ((quote_Among.f k (⟨#[98]⟩ : ByteArray) (([(⟨#[97]⟩ : ByteArray), (⟨#[98]⟩ : ByteArray)] : List ByteArray))).bind fun t182 => (if t182 = 1 then ((quote_Among.f k (⟨#[99]⟩ : ByteArray) ([] : List ByteArray)).bind fun t183 => (if t183 = (-1) then (if bt169.1.toList = ([120] : List UInt8) then (if bt169.2.1.toList = ([61] : List UInt8) then (some (bt169.2.2.toList == ([62, 121] : List UInt8))) else (none)) else (none)) else (none))) else (none))) else (none))) else (none)))) else (none)) else (none)) else (none)) else (none))) else (none)))))
theorem archivistlaw01_examples.mono : ∀ k, LeO (archivistlaw01_examples.f k ) (archivistlaw01_examples.f (k + 1) ) := by
  intro  k
  unfold archivistlaw01_examples.f
  repeat' first
      | (with_reducible exact quote_Among.mono _ _ _)
      | (with_reducible exact quote_Cut.mono _ _ _)
      | (with_reducible exact quote_Get.mono _ _)
      | (with_reducible exact quote_Put.mono _ _)
      | (with_reducible exact LeO.refl _)
      | (with_reducible exact LeO.none _)
      | (with_reducible refine LeO.ite ?_ ?_)
      | (with_reducible refine LeO.bind ?_ (fun _ => ?_))
      | exact quote_Among.mono _ _ _
      | exact quote_Cut.mono _ _ _
      | exact quote_Get.mono _ _
      | exact quote_Put.mono _ _
      | exact LeO.none _
      | refine LeO.ite ?_ ?_
      | refine LeO.bind ?_ (fun _ => ?_)
set_option maxHeartbeats 8000000 in
set_option maxRecDepth 100000 in
theorem archivistlaw01_examples.calls (k : Nat)  (r : Bool) (w : World) (h : archivistlaw01_examples.f k  = some r) :
    Calls Try.prog 22 #[] w fun e w' => e = .returned (.bool r) ∧ Below w.heap.size w w' := by
  have HB := Aside0.mk (Below.refl w.heap.size w)
  have H : ((quote_Get.f k (⟨#[34, 97, 92, 34, 98, 34, 120]⟩ : ByteArray)).bind fun bt160 => ((quote_Get.f k (⟨#[34, 97]⟩ : ByteArray)).bind fun bt163 => ((quote_Cut.f k (⟨#[120, 61, 62, 121]⟩ : ByteArray) (([(⟨#[61]⟩ : ByteArray), (⟨#[61, 62]⟩ : ByteArray)] : List ByteArray))).bind fun bt169 => ((quote_Put.f k (⟨#[97, 10, 34]⟩ : ByteArray)).bind fun t172 => (if t172.toList = ([34, 97, 92, 110, 92, 34, 34] : List UInt8) then ((quote_Put.f k (⟨#[0]⟩ : ByteArray)).bind fun t173 => (if t173.toList = ([34, 92, 120, 48, 48, 34] : List UInt8) then (if bt160.1.toList = ([97, 34, 98] : List UInt8) then (if bt160.2.1 = 6 then (if bt160.2.2 = true then (if bt163.2.2 = true then (none) else ((quote_Join.f (⟨#[44]⟩ : ByteArray) (([(⟨#[97]⟩ : ByteArray), (⟨#[98]⟩ : ByteArray)] : List ByteArray))).bind fun t177 => (if t177.toList = ([97, 44, 98] : List UInt8) then ((quote_Join.f (⟨#[44]⟩ : ByteArray) ([] : List ByteArray)).bind fun t178 => (if t178.toList = ([] : List UInt8) then ((quote_Among.f k (⟨#[98]⟩ : ByteArray) (([(⟨#[97]⟩ : ByteArray), (⟨#[98]⟩ : ByteArray)] : List ByteArray))).bind fun t182 => (if t182 = 1 then ((quote_Among.f k (⟨#[99]⟩ : ByteArray) ([] : List ByteArray)).bind fun t183 => (if t183 = (-1) then (if bt169.1.toList = ([120] : List UInt8) then (if bt169.2.1.toList = ([61] : List UInt8) then (some (bt169.2.2.toList == ([62, 121] : List UInt8))) else (none)) else (none)) else (none))) else (none))) else (none))) else (none)))) else (none)) else (none)) else (none)) else (none))) else (none)))))) = some r := h
  clear h
  replace H := Option.bind_eq_some_iff.mp H
  obtain ⟨⟨t160, t161, t162⟩, A10, H⟩ := H
  replace H : ((quote_Get.f k (⟨#[34, 97]⟩ : ByteArray)).bind fun bt163 => ((quote_Cut.f k (⟨#[120, 61, 62, 121]⟩ : ByteArray) (([(⟨#[61]⟩ : ByteArray), (⟨#[61, 62]⟩ : ByteArray)] : List ByteArray))).bind fun bt169 => ((quote_Put.f k (⟨#[97, 10, 34]⟩ : ByteArray)).bind fun t172 => (if t172.toList = ([34, 97, 92, 110, 92, 34, 34] : List UInt8) then ((quote_Put.f k (⟨#[0]⟩ : ByteArray)).bind fun t173 => (if t173.toList = ([34, 92, 120, 48, 48, 34] : List UInt8) then (if t160.toList = ([97, 34, 98] : List UInt8) then (if t161 = 6 then (if t162 = true then (if bt163.2.2 = true then (none) else ((quote_Join.f (⟨#[44]⟩ : ByteArray) (([(⟨#[97]⟩ : ByteArray), (⟨#[98]⟩ : ByteArray)] : List ByteArray))).bind fun t177 => (if t177.toList = ([97, 44, 98] : List UInt8) then ((quote_Join.f (⟨#[44]⟩ : ByteArray) ([] : List ByteArray)).bind fun t178 => (if t178.toList = ([] : List UInt8) then ((quote_Among.f k (⟨#[98]⟩ : ByteArray) (([(⟨#[97]⟩ : ByteArray), (⟨#[98]⟩ : ByteArray)] : List ByteArray))).bind fun t182 => (if t182 = 1 then ((quote_Among.f k (⟨#[99]⟩ : ByteArray) ([] : List ByteArray)).bind fun t183 => (if t183 = (-1) then (if bt169.1.toList = ([120] : List UInt8) then (if bt169.2.1.toList = ([61] : List UInt8) then (some (bt169.2.2.toList == ([62, 121] : List UInt8))) else (none)) else (none)) else (none))) else (none))) else (none))) else (none)))) else (none)) else (none)) else (none)) else (none))) else (none))))) = some r := H
  have A1 := Aside0.mk A10
  clear A10
  replace H := Option.bind_eq_some_iff.mp H
  obtain ⟨⟨t163, t164, t165⟩, A20, H⟩ := H
  replace H : ((quote_Cut.f k (⟨#[120, 61, 62, 121]⟩ : ByteArray) (([(⟨#[61]⟩ : ByteArray), (⟨#[61, 62]⟩ : ByteArray)] : List ByteArray))).bind fun bt169 => ((quote_Put.f k (⟨#[97, 10, 34]⟩ : ByteArray)).bind fun t172 => (if t172.toList = ([34, 97, 92, 110, 92, 34, 34] : List UInt8) then ((quote_Put.f k (⟨#[0]⟩ : ByteArray)).bind fun t173 => (if t173.toList = ([34, 92, 120, 48, 48, 34] : List UInt8) then (if t160.toList = ([97, 34, 98] : List UInt8) then (if t161 = 6 then (if t162 = true then (if t165 = true then (none) else ((quote_Join.f (⟨#[44]⟩ : ByteArray) (([(⟨#[97]⟩ : ByteArray), (⟨#[98]⟩ : ByteArray)] : List ByteArray))).bind fun t177 => (if t177.toList = ([97, 44, 98] : List UInt8) then ((quote_Join.f (⟨#[44]⟩ : ByteArray) ([] : List ByteArray)).bind fun t178 => (if t178.toList = ([] : List UInt8) then ((quote_Among.f k (⟨#[98]⟩ : ByteArray) (([(⟨#[97]⟩ : ByteArray), (⟨#[98]⟩ : ByteArray)] : List ByteArray))).bind fun t182 => (if t182 = 1 then ((quote_Among.f k (⟨#[99]⟩ : ByteArray) ([] : List ByteArray)).bind fun t183 => (if t183 = (-1) then (if bt169.1.toList = ([120] : List UInt8) then (if bt169.2.1.toList = ([61] : List UInt8) then (some (bt169.2.2.toList == ([62, 121] : List UInt8))) else (none)) else (none)) else (none))) else (none))) else (none))) else (none)))) else (none)) else (none)) else (none)) else (none))) else (none)))) = some r := H
  have A2 := Aside0.mk A20
  clear A20
  obtain ⟨y166, hy166⟩ : ∃ y_ : List ByteArray, y_ = (([(⟨#[61]⟩ : ByteArray), (⟨#[61, 62]⟩ : ByteArray)] : List ByteArray)) := ⟨_, rfl⟩
  replace H : ((quote_Cut.f k (⟨#[120, 61, 62, 121]⟩ : ByteArray) y166).bind fun bt169 => ((quote_Put.f k (⟨#[97, 10, 34]⟩ : ByteArray)).bind fun t172 => (if t172.toList = ([34, 97, 92, 110, 92, 34, 34] : List UInt8) then ((quote_Put.f k (⟨#[0]⟩ : ByteArray)).bind fun t173 => (if t173.toList = ([34, 92, 120, 48, 48, 34] : List UInt8) then (if t160.toList = ([97, 34, 98] : List UInt8) then (if t161 = 6 then (if t162 = true then (if t165 = true then (none) else ((quote_Join.f (⟨#[44]⟩ : ByteArray) (([(⟨#[97]⟩ : ByteArray), (⟨#[98]⟩ : ByteArray)] : List ByteArray))).bind fun t177 => (if t177.toList = ([97, 44, 98] : List UInt8) then ((quote_Join.f (⟨#[44]⟩ : ByteArray) ([] : List ByteArray)).bind fun t178 => (if t178.toList = ([] : List UInt8) then ((quote_Among.f k (⟨#[98]⟩ : ByteArray) (([(⟨#[97]⟩ : ByteArray), (⟨#[98]⟩ : ByteArray)] : List ByteArray))).bind fun t182 => (if t182 = 1 then ((quote_Among.f k (⟨#[99]⟩ : ByteArray) ([] : List ByteArray)).bind fun t183 => (if t183 = (-1) then (if bt169.1.toList = ([120] : List UInt8) then (if bt169.2.1.toList = ([61] : List UInt8) then (some (bt169.2.2.toList == ([62, 121] : List UInt8))) else (none)) else (none)) else (none))) else (none))) else (none))) else (none)))) else (none)) else (none)) else (none)) else (none))) else (none)))) = some r := by first | (rw [hy166]; with_reducible exact H) | (have H2_ := (Option.bind_some _ _).symm.trans H; rw [hy166]; with_reducible exact H2_) | (have H2_ := (Option.bind_some _ _).symm.trans H; with_reducible exact H2_) | with_reducible exact H | (rw [hy166]; exact H) | exact H
  have Ny166 := Aside0.mk hy166
  clear hy166
  replace H := Option.bind_eq_some_iff.mp H
  obtain ⟨⟨t169, t170, t171⟩, A30, H⟩ := H
  replace H : ((quote_Put.f k (⟨#[97, 10, 34]⟩ : ByteArray)).bind fun t172 => (if t172.toList = ([34, 97, 92, 110, 92, 34, 34] : List UInt8) then ((quote_Put.f k (⟨#[0]⟩ : ByteArray)).bind fun t173 => (if t173.toList = ([34, 92, 120, 48, 48, 34] : List UInt8) then (if t160.toList = ([97, 34, 98] : List UInt8) then (if t161 = 6 then (if t162 = true then (if t165 = true then (none) else ((quote_Join.f (⟨#[44]⟩ : ByteArray) (([(⟨#[97]⟩ : ByteArray), (⟨#[98]⟩ : ByteArray)] : List ByteArray))).bind fun t177 => (if t177.toList = ([97, 44, 98] : List UInt8) then ((quote_Join.f (⟨#[44]⟩ : ByteArray) ([] : List ByteArray)).bind fun t178 => (if t178.toList = ([] : List UInt8) then ((quote_Among.f k (⟨#[98]⟩ : ByteArray) (([(⟨#[97]⟩ : ByteArray), (⟨#[98]⟩ : ByteArray)] : List ByteArray))).bind fun t182 => (if t182 = 1 then ((quote_Among.f k (⟨#[99]⟩ : ByteArray) ([] : List ByteArray)).bind fun t183 => (if t183 = (-1) then (if t169.toList = ([120] : List UInt8) then (if t170.toList = ([61] : List UInt8) then (some (t171.toList == ([62, 121] : List UInt8))) else (none)) else (none)) else (none))) else (none))) else (none))) else (none)))) else (none)) else (none)) else (none)) else (none))) else (none))) = some r := H
  have A3 := Aside0.mk A30
  clear A30
  replace H := Option.bind_eq_some_iff.mp H
  obtain ⟨t172, A40, H⟩ := H
  replace H : (if t172.toList = ([34, 97, 92, 110, 92, 34, 34] : List UInt8) then ((quote_Put.f k (⟨#[0]⟩ : ByteArray)).bind fun t173 => (if t173.toList = ([34, 92, 120, 48, 48, 34] : List UInt8) then (if t160.toList = ([97, 34, 98] : List UInt8) then (if t161 = 6 then (if t162 = true then (if t165 = true then (none) else ((quote_Join.f (⟨#[44]⟩ : ByteArray) (([(⟨#[97]⟩ : ByteArray), (⟨#[98]⟩ : ByteArray)] : List ByteArray))).bind fun t177 => (if t177.toList = ([97, 44, 98] : List UInt8) then ((quote_Join.f (⟨#[44]⟩ : ByteArray) ([] : List ByteArray)).bind fun t178 => (if t178.toList = ([] : List UInt8) then ((quote_Among.f k (⟨#[98]⟩ : ByteArray) (([(⟨#[97]⟩ : ByteArray), (⟨#[98]⟩ : ByteArray)] : List ByteArray))).bind fun t182 => (if t182 = 1 then ((quote_Among.f k (⟨#[99]⟩ : ByteArray) ([] : List ByteArray)).bind fun t183 => (if t183 = (-1) then (if t169.toList = ([120] : List UInt8) then (if t170.toList = ([61] : List UInt8) then (some (t171.toList == ([62, 121] : List UInt8))) else (none)) else (none)) else (none))) else (none))) else (none))) else (none)))) else (none)) else (none)) else (none)) else (none))) else (none)) = some r := H
  have A4 := Aside0.mk A40
  clear A40
  by_cases c5 : t172.toList = ([34, 97, 92, 110, 92, 34, 34] : List UInt8)
  · rw [if_pos c5] at H
    have c5b0 : (t172.toList == ([34, 97, 92, 110, 92, 34, 34] : List UInt8)) = true := beq_iff_eq.mpr c5
    have c5b1 : (t172.toList != ([34, 97, 92, 110, 92, 34, 34] : List UInt8)) = false := bne_eq_false_iff_eq.mpr c5
    clear c5
    replace H := Option.bind_eq_some_iff.mp H
    obtain ⟨t173, A60, H⟩ := H
    replace H : (if t173.toList = ([34, 92, 120, 48, 48, 34] : List UInt8) then (if t160.toList = ([97, 34, 98] : List UInt8) then (if t161 = 6 then (if t162 = true then (if t165 = true then (none) else ((quote_Join.f (⟨#[44]⟩ : ByteArray) (([(⟨#[97]⟩ : ByteArray), (⟨#[98]⟩ : ByteArray)] : List ByteArray))).bind fun t177 => (if t177.toList = ([97, 44, 98] : List UInt8) then ((quote_Join.f (⟨#[44]⟩ : ByteArray) ([] : List ByteArray)).bind fun t178 => (if t178.toList = ([] : List UInt8) then ((quote_Among.f k (⟨#[98]⟩ : ByteArray) (([(⟨#[97]⟩ : ByteArray), (⟨#[98]⟩ : ByteArray)] : List ByteArray))).bind fun t182 => (if t182 = 1 then ((quote_Among.f k (⟨#[99]⟩ : ByteArray) ([] : List ByteArray)).bind fun t183 => (if t183 = (-1) then (if t169.toList = ([120] : List UInt8) then (if t170.toList = ([61] : List UInt8) then (some (t171.toList == ([62, 121] : List UInt8))) else (none)) else (none)) else (none))) else (none))) else (none))) else (none)))) else (none)) else (none)) else (none)) else (none)) = some r := H
    have A6 := Aside0.mk A60
    clear A60
    by_cases c7 : t173.toList = ([34, 92, 120, 48, 48, 34] : List UInt8)
    · rw [if_pos c7] at H
      have c7b0 : (t173.toList == ([34, 92, 120, 48, 48, 34] : List UInt8)) = true := beq_iff_eq.mpr c7
      have c7b1 : (t173.toList != ([34, 92, 120, 48, 48, 34] : List UInt8)) = false := bne_eq_false_iff_eq.mpr c7
      clear c7
      by_cases c8 : t160.toList = ([97, 34, 98] : List UInt8)
      · rw [if_pos c8] at H
        have c8b0 : (t160.toList == ([97, 34, 98] : List UInt8)) = true := beq_iff_eq.mpr c8
        have c8b1 : (t160.toList != ([97, 34, 98] : List UInt8)) = false := bne_eq_false_iff_eq.mpr c8
        clear c8
        by_cases c9 : t161 = 6
        · rw [if_pos c9] at H
          have c9b0 : (t161 == 6) = true := beq_iff_eq.mpr c9
          have c9b1 : (t161 != 6) = false := bne_eq_false_iff_eq.mpr c9
          clear c9
          by_cases c10 : t162 = true
          · subst c10
            have H1 : (if t165 = true then (none) else ((quote_Join.f (⟨#[44]⟩ : ByteArray) (([(⟨#[97]⟩ : ByteArray), (⟨#[98]⟩ : ByteArray)] : List ByteArray))).bind fun t177 => (if t177.toList = ([97, 44, 98] : List UInt8) then ((quote_Join.f (⟨#[44]⟩ : ByteArray) ([] : List ByteArray)).bind fun t178 => (if t178.toList = ([] : List UInt8) then ((quote_Among.f k (⟨#[98]⟩ : ByteArray) (([(⟨#[97]⟩ : ByteArray), (⟨#[98]⟩ : ByteArray)] : List ByteArray))).bind fun t182 => (if t182 = 1 then ((quote_Among.f k (⟨#[99]⟩ : ByteArray) ([] : List ByteArray)).bind fun t183 => (if t183 = (-1) then (if t169.toList = ([120] : List UInt8) then (if t170.toList = ([61] : List UInt8) then (some (t171.toList == ([62, 121] : List UInt8))) else (none)) else (none)) else (none))) else (none))) else (none))) else (none)))) = some r := by rw [if_pos rfl] at H; exact H
            clear H
            have H := H1
            clear H1
            by_cases c11 : t165 = true
            · subst c11
              have H1 : (none) = some r := by rw [if_pos rfl] at H; exact H
              clear H
              have H := H1
              clear H1
              exact absurd H (by simp)
            · replace c11 := Bool.eq_false_iff.mpr c11
              subst c11
              have H1 : ((quote_Join.f (⟨#[44]⟩ : ByteArray) (([(⟨#[97]⟩ : ByteArray), (⟨#[98]⟩ : ByteArray)] : List ByteArray))).bind fun t177 => (if t177.toList = ([97, 44, 98] : List UInt8) then ((quote_Join.f (⟨#[44]⟩ : ByteArray) ([] : List ByteArray)).bind fun t178 => (if t178.toList = ([] : List UInt8) then ((quote_Among.f k (⟨#[98]⟩ : ByteArray) (([(⟨#[97]⟩ : ByteArray), (⟨#[98]⟩ : ByteArray)] : List ByteArray))).bind fun t182 => (if t182 = 1 then ((quote_Among.f k (⟨#[99]⟩ : ByteArray) ([] : List ByteArray)).bind fun t183 => (if t183 = (-1) then (if t169.toList = ([120] : List UInt8) then (if t170.toList = ([61] : List UInt8) then (some (t171.toList == ([62, 121] : List UInt8))) else (none)) else (none)) else (none))) else (none))) else (none))) else (none))) = some r := by rw [if_neg (show ¬ (false = true) by decide)] at H; exact H
              clear H
              have H := H1
              clear H1
              obtain ⟨y174, hy174⟩ : ∃ y_ : List ByteArray, y_ = (([(⟨#[97]⟩ : ByteArray), (⟨#[98]⟩ : ByteArray)] : List ByteArray)) := ⟨_, rfl⟩
              replace H : ((quote_Join.f (⟨#[44]⟩ : ByteArray) y174).bind fun t177 => (if t177.toList = ([97, 44, 98] : List UInt8) then ((quote_Join.f (⟨#[44]⟩ : ByteArray) ([] : List ByteArray)).bind fun t178 => (if t178.toList = ([] : List UInt8) then ((quote_Among.f k (⟨#[98]⟩ : ByteArray) (([(⟨#[97]⟩ : ByteArray), (⟨#[98]⟩ : ByteArray)] : List ByteArray))).bind fun t182 => (if t182 = 1 then ((quote_Among.f k (⟨#[99]⟩ : ByteArray) ([] : List ByteArray)).bind fun t183 => (if t183 = (-1) then (if t169.toList = ([120] : List UInt8) then (if t170.toList = ([61] : List UInt8) then (some (t171.toList == ([62, 121] : List UInt8))) else (none)) else (none)) else (none))) else (none))) else (none))) else (none))) = some r := by first | (rw [hy174]; with_reducible exact H) | (have H2_ := (Option.bind_some _ _).symm.trans H; rw [hy174]; with_reducible exact H2_) | (have H2_ := (Option.bind_some _ _).symm.trans H; with_reducible exact H2_) | with_reducible exact H | (rw [hy174]; exact H) | exact H
              have Ny174 := Aside0.mk hy174
              clear hy174
              replace H := Option.bind_eq_some_iff.mp H
              obtain ⟨t177, A120, H⟩ := H
              replace H : (if t177.toList = ([97, 44, 98] : List UInt8) then ((quote_Join.f (⟨#[44]⟩ : ByteArray) ([] : List ByteArray)).bind fun t178 => (if t178.toList = ([] : List UInt8) then ((quote_Among.f k (⟨#[98]⟩ : ByteArray) (([(⟨#[97]⟩ : ByteArray), (⟨#[98]⟩ : ByteArray)] : List ByteArray))).bind fun t182 => (if t182 = 1 then ((quote_Among.f k (⟨#[99]⟩ : ByteArray) ([] : List ByteArray)).bind fun t183 => (if t183 = (-1) then (if t169.toList = ([120] : List UInt8) then (if t170.toList = ([61] : List UInt8) then (some (t171.toList == ([62, 121] : List UInt8))) else (none)) else (none)) else (none))) else (none))) else (none))) else (none)) = some r := H
              have A12 := Aside0.mk A120
              clear A120
              by_cases c13 : t177.toList = ([97, 44, 98] : List UInt8)
              · rw [if_pos c13] at H
                have c13b0 : (t177.toList == ([97, 44, 98] : List UInt8)) = true := beq_iff_eq.mpr c13
                have c13b1 : (t177.toList != ([97, 44, 98] : List UInt8)) = false := bne_eq_false_iff_eq.mpr c13
                clear c13
                replace H := Option.bind_eq_some_iff.mp H
                obtain ⟨t178, A140, H⟩ := H
                replace H : (if t178.toList = ([] : List UInt8) then ((quote_Among.f k (⟨#[98]⟩ : ByteArray) (([(⟨#[97]⟩ : ByteArray), (⟨#[98]⟩ : ByteArray)] : List ByteArray))).bind fun t182 => (if t182 = 1 then ((quote_Among.f k (⟨#[99]⟩ : ByteArray) ([] : List ByteArray)).bind fun t183 => (if t183 = (-1) then (if t169.toList = ([120] : List UInt8) then (if t170.toList = ([61] : List UInt8) then (some (t171.toList == ([62, 121] : List UInt8))) else (none)) else (none)) else (none))) else (none))) else (none)) = some r := H
                have A14 := Aside0.mk A140
                clear A140
                by_cases c15 : t178.toList = ([] : List UInt8)
                · rw [if_pos c15] at H
                  have c15b0 : (t178.toList == ([] : List UInt8)) = true := beq_iff_eq.mpr c15
                  have c15b1 : (t178.toList != ([] : List UInt8)) = false := bne_eq_false_iff_eq.mpr c15
                  clear c15
                  obtain ⟨y179, hy179⟩ : ∃ y_ : List ByteArray, y_ = (([(⟨#[97]⟩ : ByteArray), (⟨#[98]⟩ : ByteArray)] : List ByteArray)) := ⟨_, rfl⟩
                  replace H : ((quote_Among.f k (⟨#[98]⟩ : ByteArray) y179).bind fun t182 => (if t182 = 1 then ((quote_Among.f k (⟨#[99]⟩ : ByteArray) ([] : List ByteArray)).bind fun t183 => (if t183 = (-1) then (if t169.toList = ([120] : List UInt8) then (if t170.toList = ([61] : List UInt8) then (some (t171.toList == ([62, 121] : List UInt8))) else (none)) else (none)) else (none))) else (none))) = some r := by first | (rw [hy179]; with_reducible exact H) | (have H2_ := (Option.bind_some _ _).symm.trans H; rw [hy179]; with_reducible exact H2_) | (have H2_ := (Option.bind_some _ _).symm.trans H; with_reducible exact H2_) | with_reducible exact H | (rw [hy179]; exact H) | exact H
                  have Ny179 := Aside0.mk hy179
                  clear hy179
                  replace H := Option.bind_eq_some_iff.mp H
                  obtain ⟨t182, A160, H⟩ := H
                  replace H : (if t182 = 1 then ((quote_Among.f k (⟨#[99]⟩ : ByteArray) ([] : List ByteArray)).bind fun t183 => (if t183 = (-1) then (if t169.toList = ([120] : List UInt8) then (if t170.toList = ([61] : List UInt8) then (some (t171.toList == ([62, 121] : List UInt8))) else (none)) else (none)) else (none))) else (none)) = some r := H
                  have A16 := Aside0.mk A160
                  clear A160
                  by_cases c17 : t182 = 1
                  · rw [if_pos c17] at H
                    have c17b0 : (t182 == 1) = true := beq_iff_eq.mpr c17
                    have c17b1 : (t182 != 1) = false := bne_eq_false_iff_eq.mpr c17
                    clear c17
                    replace H := Option.bind_eq_some_iff.mp H
                    obtain ⟨t183, A180, H⟩ := H
                    replace H : (if t183 = (-1) then (if t169.toList = ([120] : List UInt8) then (if t170.toList = ([61] : List UInt8) then (some (t171.toList == ([62, 121] : List UInt8))) else (none)) else (none)) else (none)) = some r := H
                    have A18 := Aside0.mk A180
                    clear A180
                    by_cases c19 : t183 = (-1)
                    · rw [if_pos c19] at H
                      have c19b0 : (t183 == (-1)) = true := beq_iff_eq.mpr c19
                      have c19b1 : (t183 != (-1)) = false := bne_eq_false_iff_eq.mpr c19
                      clear c19
                      by_cases c20 : t169.toList = ([120] : List UInt8)
                      · rw [if_pos c20] at H
                        have c20b0 : (t169.toList == ([120] : List UInt8)) = true := beq_iff_eq.mpr c20
                        have c20b1 : (t169.toList != ([120] : List UInt8)) = false := bne_eq_false_iff_eq.mpr c20
                        clear c20
                        by_cases c21 : t170.toList = ([61] : List UInt8)
                        · rw [if_pos c21] at H
                          have c21b0 : (t170.toList == ([61] : List UInt8)) = true := beq_iff_eq.mpr c21
                          have c21b1 : (t170.toList != ([61] : List UInt8)) = false := bne_eq_false_iff_eq.mpr c21
                          clear c21
                          obtain rfl := Option.some.inj H
                          go_enter Try.func22, Try.ntmps22
                          go_wp2_with (first | ((with_reducible refine gate_callee (f := 25) rfl ?_); refine goesL_ (some 11) rfl rfl Try.func25 (by kernel_rfl) rfl #[.string (⟨#[34, 97, 92, 34, 98, 34, 120]⟩ : ByteArray)] rfl (by (try simp only [List.map_toArray, List.map_cons, List.map_nil]); first | done | rfl | (simp only [List.length_drop, List.length_take]; rfl)) ?_; (with_reducible refine (quote_Get.calls k (⟨#[34, 97, 92, 34, 98, 34, 120]⟩ : ByteArray) t160 t161 true _ A1.out).mono ?_); rintro e w22 ⟨rfl, hb⟩; refine ⟨_, rfl, ?_⟩; have n0_ := Aside0.mk (below_step (by repeat (first | (with_reducible first | exact HB.out | apply below_alloc | apply pw_below_drewN | apply below_drew1) | exact HB.out)) hb); clear HB; have HB := n0_; clear n0_; (try clear hb); (try clear hb2); (try clear hk); (try clear hi)) | ((with_reducible refine gate_callee (f := 25) rfl ?_); refine goesL_ (some 16) rfl rfl Try.func25 (by kernel_rfl) rfl #[.string (⟨#[34, 97]⟩ : ByteArray)] rfl (by (try simp only [List.map_toArray, List.map_cons, List.map_nil]); first | done | rfl | (simp only [List.length_drop, List.length_take]; rfl)) ?_; (with_reducible refine (quote_Get.calls k (⟨#[34, 97]⟩ : ByteArray) t163 t164 false _ A2.out).mono ?_); rintro e w23 ⟨rfl, hb⟩; refine ⟨_, rfl, ?_⟩; have n0_ := Aside0.mk (below_step (by repeat (first | (with_reducible first | exact HB.out | apply below_alloc | apply pw_below_drewN | apply below_drew1) | exact HB.out)) hb); clear HB; have HB := n0_; clear n0_; (try clear hb); (try clear hb2); (try clear hk); (try clear hi)) | ((with_reducible refine gate_dst (N := 21) rfl ?_); (try (refine gate_guard (by rfl) ?_; dsimp only)); refine Kd.R_lit Kd.string _ 9 ?hg (N := 21) ?hd (xs := ([(⟨#[61]⟩ : ByteArray), (⟨#[61, 62]⟩ : ByteArray)] : List ByteArray)) (inner := [.string (⟨#[61]⟩ : ByteArray), .string (⟨#[61, 62]⟩ : ByteArray)]) (ok := fun _ => True) (okp := fun _ => True) ?hr ?hp (fun _ hk => hk) trivial (Below.refl _ _) (Nat.le_refl _) (by simp) ?_; (case hd => rfl); (case hg => rfl); (case hr => first | (go_simp; done) | (go_simp; rfl)); (case hp => exact (Reps.one (show Kd.M Kd.string _ _ _ (⟨#[61]⟩ : ByteArray) [.string (⟨#[61]⟩ : ByteArray)] from rfl) (Reps.one (show Kd.M Kd.string _ _ _ (⟨#[61, 62]⟩ : ByteArray) [.string (⟨#[61, 62]⟩ : ByteArray)] from rfl) (Reps.none _ _)))); intro v167 w24 ho25 hb hg_ hnew_; clear hg_ hnew_; (first | rw [← Ny166.out] at ho25 | (simp only [Int.reduceToNat] at ho25; rw [← Ny166.out] at ho25)); have n0_ := Aside0.mk (Kd.R_lower ho25 (below_size (by repeat (first | (with_reducible first | exact HB.out | apply below_alloc | apply pw_below_drewN | apply below_drew1) | exact HB.out)))); have n1_ := Aside0.mk (below_step (by repeat (first | (with_reducible first | exact HB.out | apply below_alloc | apply pw_below_drewN | apply below_drew1) | exact HB.out)) hb); clear HB; have HO168 := n0_; have HB := n1_; clear n0_ n1_; clear hb ho25; obtain ⟨Ao26, co26, eo26⟩ := Kd.R_slice HO168.out; subst eo26) | ((with_reducible refine gate_callee (f := 27) rfl ?_); refine goesL_ (some 22) rfl rfl Try.func27 (by kernel_rfl) rfl #[.string (⟨#[120, 61, 62, 121]⟩ : ByteArray), .slice Ao26 y166.length co26] rfl (by (try simp only [List.map_toArray, List.map_cons, List.map_nil]); first | done | rfl | (simp only [List.length_drop, List.length_take]; rfl)) ?_; (with_reducible refine (quote_Cut.calls k (⟨#[120, 61, 62, 121]⟩ : ByteArray) _ _ y166 t169 t170 t171 _ ?side1 ?side2 A3.out).mono ?_); (case side1 => repeat (first | exact (Kd.R_reads' HO168.out).2.2 | (with_reducible refine Kd.C_alloc ?_ _) | (with_reducible refine Kd.C_drewN ?_ _) | (with_reducible refine Kd.C_drew ?_))); (case side2 => exact (Kd.R_reads' HO168.out).2.1); rintro e w' ⟨rfl, ⟨nd, rfl⟩⟩; refine ⟨_, rfl, ?_⟩) | ((with_reducible refine gate_callee (f := 21) rfl ?_); refine goesL_ (some 26) rfl rfl Try.func21 (by kernel_rfl) rfl #[.string (⟨#[97, 10, 34]⟩ : ByteArray)] rfl (by (try simp only [List.map_toArray, List.map_cons, List.map_nil]); first | done | rfl | (simp only [List.length_drop, List.length_take]; rfl)) ?_; (with_reducible refine (quote_Put.calls k (⟨#[97, 10, 34]⟩ : ByteArray) t172 _ A4.out).mono ?_); rintro e w27 ⟨rfl, hb⟩; refine ⟨_, rfl, ?_⟩; have n0_ := Aside0.mk (Kd.R_below (by (with_reducible repeat (first | apply Kd.R_alloc | apply Kd.R_drewN | apply Kd.R_drew)); exact HO168.out) hb); have n1_ := Aside0.mk (below_step (by repeat (first | (with_reducible first | exact HB.out | apply below_alloc | apply pw_below_drewN | apply below_drew1) | exact HB.out)) hb); clear HO168; clear HB; have HO168 := n0_; have HB := n1_; clear n0_ n1_; (try clear hb); (try clear hb2); (try clear hk); (try clear hi)) | (go_at_call 21; (with_reducible refine (quote_Put.calls k (⟨#[0]⟩ : ByteArray) t173 _ A6.out).mono ?_); rintro e w28 ⟨rfl, hb⟩; have n0_ := Aside0.mk (Kd.R_below (by (with_reducible repeat (first | apply Kd.R_alloc | apply Kd.R_drewN | apply Kd.R_drew)); exact HO168.out) hb); have n1_ := Aside0.mk (below_step (by repeat (first | (with_reducible first | exact HB.out | apply below_alloc | apply pw_below_drewN | apply below_drew1) | exact HB.out)) hb); clear HO168; clear HB; have HO168 := n0_; have HB := n1_; clear n0_ n1_; (try clear hb); (try clear hb2); (try clear hk); (try clear hi)) | ((with_reducible refine gate_dst (N := 48) rfl ?_); (try (refine gate_guard (by rfl) ?_; dsimp only)); refine Kd.R_lit Kd.string _ 9 ?hg (N := 48) ?hd (xs := ([(⟨#[97]⟩ : ByteArray), (⟨#[98]⟩ : ByteArray)] : List ByteArray)) (inner := [.string (⟨#[97]⟩ : ByteArray), .string (⟨#[98]⟩ : ByteArray)]) (ok := fun _ => True) (okp := fun _ => True) ?hr ?hp (fun _ hk => hk) trivial (Below.refl _ _) (Nat.le_refl _) (by simp) ?_; (case hd => rfl); (case hg => rfl); (case hr => first | (go_simp; done) | (go_simp; rfl)); (case hp => exact (Reps.one (show Kd.M Kd.string _ _ _ (⟨#[97]⟩ : ByteArray) [.string (⟨#[97]⟩ : ByteArray)] from rfl) (Reps.one (show Kd.M Kd.string _ _ _ (⟨#[98]⟩ : ByteArray) [.string (⟨#[98]⟩ : ByteArray)] from rfl) (Reps.none _ _)))); intro v175 w29 ho30 hb hg_ hnew_; clear hg_ hnew_; (first | rw [← Ny174.out] at ho30 | (simp only [Int.reduceToNat] at ho30; rw [← Ny174.out] at ho30)); have n0_ := Aside0.mk (Kd.R_elder' (by (with_reducible repeat (first | apply Kd.R_alloc | apply Kd.R_drewN | apply Kd.R_drew)); exact HO168.out) (Kd.R_base ho30) hb); have n1_ := Aside0.mk (Kd.R_lower (Kd.R_new' ho30 (Kd.R_lt (by (with_reducible repeat (first | apply Kd.R_alloc | apply Kd.R_drewN | apply Kd.R_drew)); exact HO168.out))) (below_size (by repeat (first | (with_reducible first | exact HB.out | apply below_alloc | apply pw_below_drewN | apply below_drew1) | exact HB.out)))); have n2_ := Aside0.mk (below_step (by repeat (first | (with_reducible first | exact HB.out | apply below_alloc | apply pw_below_drewN | apply below_drew1) | exact HB.out)) hb); clear HO168; clear HB; have HO168 := n0_; have HO176 := n1_; have HB := n2_; clear n0_ n1_ n2_; clear hb ho30; obtain ⟨Ao31, co31, eo31⟩ := Kd.R_slice HO176.out; subst eo31) | (go_at_call 29; (with_reducible refine (quote_Join.calls (⟨#[44]⟩ : ByteArray) _ _ y174 t177 _ ?side1 ?side2 A12.out).mono ?_); (case side1 => repeat (first | exact (Kd.R_reads' HO176.out).2.2 | (with_reducible refine Kd.C_alloc ?_ _) | (with_reducible refine Kd.C_drewN ?_ _) | (with_reducible refine Kd.C_drew ?_))); (case side2 => exact (Kd.R_reads' HO176.out).2.1); rintro e w32 ⟨rfl, hb⟩; have n0_ := Aside0.mk (Kd.R_below (by (with_reducible repeat (first | apply Kd.R_alloc | apply Kd.R_drewN | apply Kd.R_drew)); exact HO168.out) hb); have n1_ := Aside0.mk (Kd.R_below (by (with_reducible repeat (first | apply Kd.R_alloc | apply Kd.R_drewN | apply Kd.R_drew)); exact HO176.out) hb); have n2_ := Aside0.mk (below_step (by repeat (first | (with_reducible first | exact HB.out | apply below_alloc | apply pw_below_drewN | apply below_drew1) | exact HB.out)) hb); clear HO168; clear HO176; clear HB; have HO168 := n0_; have HO176 := n1_; have HB := n2_; clear n0_ n1_ n2_; (try clear hb); (try clear hb2); (try clear hk); (try clear hi)) | (go_at_call 29; (refine (quote_Join.calls (⟨#[44]⟩ : ByteArray) _ _ ([] : List ByteArray) t178 _ ?side1 ?side2 A14.out).mono ?_); (case side1 => exact Kd.C_nil _ _); (case side2 => exact Nat.le_refl _); rintro e w33 ⟨rfl, hb⟩; have n0_ := Aside0.mk (Kd.R_below (by (with_reducible repeat (first | apply Kd.R_alloc | apply Kd.R_drewN | apply Kd.R_drew)); exact HO168.out) hb); have n1_ := Aside0.mk (Kd.R_below (by (with_reducible repeat (first | apply Kd.R_alloc | apply Kd.R_drewN | apply Kd.R_drew)); exact HO176.out) hb); have n2_ := Aside0.mk (below_step (by repeat (first | (with_reducible first | exact HB.out | apply below_alloc | apply pw_below_drewN | apply below_drew1) | exact HB.out)) hb); clear HO168; clear HO176; clear HB; have HO168 := n0_; have HO176 := n1_; have HB := n2_; clear n0_ n1_ n2_; (try clear hb); (try clear hb2); (try clear hk); (try clear hi)) | ((with_reducible refine gate_dst (N := 57) rfl ?_); (try (refine gate_guard (by rfl) ?_; dsimp only)); refine Kd.R_lit Kd.string _ 9 ?hg (N := 57) ?hd (xs := ([(⟨#[97]⟩ : ByteArray), (⟨#[98]⟩ : ByteArray)] : List ByteArray)) (inner := [.string (⟨#[97]⟩ : ByteArray), .string (⟨#[98]⟩ : ByteArray)]) (ok := fun _ => True) (okp := fun _ => True) ?hr ?hp (fun _ hk => hk) trivial (Below.refl _ _) (Nat.le_refl _) (by simp) ?_; (case hd => rfl); (case hg => rfl); (case hr => first | (go_simp; done) | (go_simp; rfl)); (case hp => exact (Reps.one (show Kd.M Kd.string _ _ _ (⟨#[97]⟩ : ByteArray) [.string (⟨#[97]⟩ : ByteArray)] from rfl) (Reps.one (show Kd.M Kd.string _ _ _ (⟨#[98]⟩ : ByteArray) [.string (⟨#[98]⟩ : ByteArray)] from rfl) (Reps.none _ _)))); intro v180 w34 ho35 hb hg_ hnew_; clear hg_ hnew_; (first | rw [← Ny179.out] at ho35 | (simp only [Int.reduceToNat] at ho35; rw [← Ny179.out] at ho35)); have n0_ := Aside0.mk (Kd.R_elder' (by (with_reducible repeat (first | apply Kd.R_alloc | apply Kd.R_drewN | apply Kd.R_drew)); exact HO168.out) (Kd.R_base ho35) hb); have n1_ := Aside0.mk (Kd.R_elder' (by (with_reducible repeat (first | apply Kd.R_alloc | apply Kd.R_drewN | apply Kd.R_drew)); exact HO176.out) (Kd.R_base ho35) hb); have n2_ := Aside0.mk (Kd.R_lower (Kd.R_new' (Kd.R_new' ho35 (Kd.R_lt (by (with_reducible repeat (first | apply Kd.R_alloc | apply Kd.R_drewN | apply Kd.R_drew)); exact HO168.out))) (Kd.R_lt (by (with_reducible repeat (first | apply Kd.R_alloc | apply Kd.R_drewN | apply Kd.R_drew)); exact HO176.out))) (below_size (by repeat (first | (with_reducible first | exact HB.out | apply below_alloc | apply pw_below_drewN | apply below_drew1) | exact HB.out)))); have n3_ := Aside0.mk (below_step (by repeat (first | (with_reducible first | exact HB.out | apply below_alloc | apply pw_below_drewN | apply below_drew1) | exact HB.out)) hb); clear HO168; clear HO176; clear HB; have HO168 := n0_; have HO176 := n1_; have HO181 := n2_; have HB := n3_; clear n0_ n1_ n2_ n3_; clear hb ho35; obtain ⟨Ao36, co36, eo36⟩ := Kd.R_slice HO181.out; subst eo36) | (go_at_call 31; (with_reducible refine (quote_Among.calls k (⟨#[98]⟩ : ByteArray) _ _ y179 t182 _ ?side1 ?side2 A16.out).mono ?_); (case side1 => repeat (first | exact (Kd.R_reads' HO181.out).2.2 | (with_reducible refine Kd.C_alloc ?_ _) | (with_reducible refine Kd.C_drewN ?_ _) | (with_reducible refine Kd.C_drew ?_))); (case side2 => exact (Kd.R_reads' HO181.out).2.1); rintro e w' ⟨rfl, ⟨nd, rfl⟩⟩) | (go_at_call 31; (refine (quote_Among.calls k (⟨#[99]⟩ : ByteArray) _ _ ([] : List ByteArray) t183 _ ?side1 ?side2 A18.out).mono ?_); (case side1 => exact Kd.C_nil _ _); (case side2 => exact Nat.le_refl _); rintro e w' ⟨rfl, ⟨nd, rfl⟩⟩))
                          go_ret
                          exact ⟨by first | rfl | (simp [errW_none, errW_some] <;> rfl) | (simp [*, errW_none, errW_some] <;> rfl), by repeat (first | (with_reducible first | exact HB.out | apply below_alloc | apply pw_below_drewN | apply below_drew1) | exact HB.out)⟩
                        · rw [if_neg c21] at H
                          exact absurd H (by simp)
                      · rw [if_neg c20] at H
                        exact absurd H (by simp)
                    · rw [if_neg c19] at H
                      exact absurd H (by simp)
                  · rw [if_neg c17] at H
                    exact absurd H (by simp)
                · rw [if_neg c15] at H
                  exact absurd H (by simp)
              · rw [if_neg c13] at H
                exact absurd H (by simp)
          · replace c10 := Bool.eq_false_iff.mpr c10
            subst c10
            have H1 : (none) = some r := by rw [if_neg (show ¬ (false = true) by decide)] at H; exact H
            clear H
            have H := H1
            clear H1
            exact absurd H (by simp)
        · rw [if_neg c9] at H
          exact absurd H (by simp)
      · rw [if_neg c8] at H
        exact absurd H (by simp)
    · rw [if_neg c7] at H
      exact absurd H (by simp)
  · rw [if_neg c5] at H
    exact absurd H (by simp)

end Go.Proofs.Ytifcnblgpnfehaa.X
