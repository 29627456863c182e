-- Laid by xprint.py, a program of this session's, out of the translation.
import Derived.Test.YtifcnblgpnfehaaX0
import Derived.Test.YtifcnblgpnfehaaX4
import Derived.Test.YtifcnblgpnfehaaX5
import Derived.Test.YtifcnblgpnfehaaX9
namespace Go.Proofs.Ytifcnblgpnfehaa.X
open Go.RowKit Go.Proofs.YtifcnblgpnfehaaW.PrintWords Go.Proofs.YtifcnblgpnfehaaW.PrintLast Go.Proofs.YtifcnblgpnfehaaW.PrintMore
attribute [local go_sem] max2_int min2_int max_two min_two max_three min_three max_four min_four x_isSome   -- for this text's walks alone
set_option linter.unusedVariables false
set_option linter.unusedSimpArgs false

/-! ### archivistref01_Among: function 32 -/
def archivistref01_Among.l0 : Nat → ByteArray → List ByteArray → Int → Option (Int)
  | 0, _, _, _ => none
  | k + 1, x0, x1, x5 => if x5 < (x1.length : Int) then (if 0 ≤ x5 then (if (rdOf ByteArray.empty x1 x5).toList = x0.toList then (some x5) else (archivistref01_Among.l0 k x0 x1 (wrap64 (x5 + 1)))) else (none)) else (some (-1))
def archivistref01_Among.f (k : Nat) (a0 : ByteArray) (l1 : List ByteArray) : Option (Int) := archivistref01_Among.l0 k a0 l1 0
theorem archivistref01_Among.mono_l : ∀ k, (∀ y0 y1 y2, LeO (archivistref01_Among.l0 k y0 y1 y2) (archivistref01_Among.l0 (k + 1) y0 y1 y2))
  | 0 => fun _ _ _ r h => by simp [archivistref01_Among.l0] at h
  | k + 1 => by
    have ih0 := archivistref01_Among.mono_l k
    · intro y0 y1 y2
      unfold archivistref01_Among.l0
      repeat' first
      | (with_reducible exact ih0 _ _ _)
      | (with_reducible exact LeO.refl _)
      | (with_reducible exact LeO.none _)
      | (with_reducible refine LeO.ite ?_ ?_)
      | (with_reducible refine LeO.bind ?_ (fun _ => ?_))
      | exact ih0 _ _ _
      | exact LeO.none _
      | refine LeO.ite ?_ ?_
      | refine LeO.bind ?_ (fun _ => ?_)
theorem archivistref01_Among.mono : ∀ a0 a1 k, LeO (archivistref01_Among.f k a0 a1) (archivistref01_Among.f (k + 1) a0 a1) := by
  intro a0 a1 k
  have ih0 := archivistref01_Among.mono_l k
  unfold archivistref01_Among.f
  repeat' first
      | (with_reducible exact ih0 _ _ _)
      | (with_reducible exact LeO.refl _)
      | (with_reducible exact LeO.none _)
      | (with_reducible refine LeO.ite ?_ ?_)
      | (with_reducible refine LeO.bind ?_ (fun _ => ?_))
      | exact ih0 _ _ _
      | exact LeO.none _
      | refine LeO.ite ?_ ?_
      | refine LeO.bind ?_ (fun _ => ?_)
set_option maxHeartbeats 8000000 in
set_option maxRecDepth 100000 in
theorem archivistref01_Among.calls (k : Nat) (a0 : ByteArray) (A1 : Option Addr) (c1 : Nat) (l1 : List ByteArray) (r : Int) (w : World) (hr1 : Kd.C Kd.string w A1 l1.length l1) (hc1 : l1.length ≤ c1) (h : archivistref01_Among.f k a0 l1 = some r) :
    Calls Try.prog 32 #[.string a0, .slice A1 l1.length c1] w fun e w' => e = .returned (.int .i64 r) ∧ Drawn0 w w' := by
  have HR1 := Aside0.mk hr1
  have HC1 := Aside0.mk hc1
  clear hr1 hc1
  have H : (archivistref01_Among.l0 k a0 l1 0) = some r := h
  clear h
  have H' := Aside0.mk H
  clear H
  go_enter Try.func32, Try.ntmps32
  go_wp2
  go_loopg [5] k (fun kq v5 w' => ∃ (x5_1 : Int), v5 = .int .i64 x5_1 ∧ Aside0 (archivistref01_Among.l0 kq a0 l1 x5_1 = some r) ∧ Aside0 (kq ≤ k) ∧ Drawn0 w w')
  case atStart => exact ⟨(0), (by first | rfl | (simp; done) | (simp [*]; done)), H', ⟨Nat.le_refl _⟩, by repeat (first | exact Drawn0.refl _ | apply Drawn0.step)⟩
  case round =>
    clear H'
    try clear c1
    try clear p2
    obtain ⟨x5_1, rfl, HA, HK1, ⟨m1, rfl⟩⟩ := hrel
    cases gk with
    | zero => exact absurd HA.out (by simp [archivistref01_Among.l0])
    | succ k1 =>
      have H := HA.out
      clear HA
      simp only [archivistref01_Among.l0] at H
      by_cases c3 : x5_1 < (l1.length : Int)
      · rw [if_pos c3] at H
        have c3b0 : decide (x5_1 < (l1.length : Int)) = true := decide_eq_true c3
        clear c3
        by_cases c4 : 0 ≤ x5_1
        · rw [if_pos c4] at H
          have c4b0 : decide (0 ≤ x5_1) = true := decide_eq_true c4
          clear c4
          by_cases c5 : (rdOf ByteArray.empty l1 x5_1).toList = a0.toList
          · rw [if_pos c5] at H
            have c5b0 : ((rdOf ByteArray.empty l1 x5_1).toList == a0.toList) = true := beq_iff_eq.mpr c5
            have c5b1 : ((rdOf ByteArray.empty l1 x5_1).toList != a0.toList) = false := bne_eq_false_iff_eq.mpr c5
            clear c5
            obtain rfl := Option.some.inj H
            have p238 : 0 ≤ (x5_1 : Int) := of_decide_eq_true (by first | (with_reducible assumption) | assumption)
            have q238 : x5_1 < (l1.length : Int) := of_decide_eq_true (by first | (with_reducible assumption) | assumption)
            obtain ⟨ad238, e238, hx238_0⟩ := Kd.at_string HR1.out x5_1 p238 q238
            cases e238
            replace p238 := eq_true p238
            replace q238 := eq_true q238
            go_wp2
            go_ret
            exact ⟨by first | rfl | (simp; done) | (simp [*]; done), by repeat (first | exact Drawn0.refl _ | apply Drawn0.step)⟩
          · rw [if_neg c5] at H
            have c5b0 : ((rdOf ByteArray.empty l1 x5_1).toList == a0.toList) = false := beq_eq_false_iff_ne.mpr c5
            have c5b1 : ((rdOf ByteArray.empty l1 x5_1).toList != a0.toList) = true := bne_iff_ne.mpr c5
            have H' := Aside0.mk H
            clear H
            have p238 : 0 ≤ (x5_1 : Int) := of_decide_eq_true (by first | (with_reducible assumption) | assumption)
            have q238 : x5_1 < (l1.length : Int) := of_decide_eq_true (by first | (with_reducible assumption) | assumption)
            obtain ⟨ad238, e238, hx238_0⟩ := Kd.at_string HR1.out x5_1 p238 q238
            cases e238
            replace p238 := eq_true p238
            replace q238 := eq_true q238
            go_wp2
            go_roundg k1
            case measure => have := HK1.out; omega
            case rel => exact ⟨(wrap64 (x5_1 + 1)), (by first | rfl | (simp; done) | (simp [*]; done)), H', ⟨by have := HK1.out; omega⟩, by repeat (first | exact Drawn0.refl _ | apply Drawn0.step)⟩
        · rw [if_neg c4] at H
          exact absurd H (by simp)
      · rw [if_neg c3] at H
        have c3b0 : decide (x5_1 < (l1.length : Int)) = false := decide_eq_false c3
        clear c3
        obtain rfl := Option.some.inj H
        go_wp2
        go_ret
        exact ⟨by first | rfl | (simp; done) | (simp [*]; done), by repeat (first | exact Drawn0.refl _ | apply Drawn0.step)⟩

/-! ### archivistlaw01_QuoteParts: function 9 -/
mutual
def archivistlaw01_QuoteParts.j0 : Nat → ByteArray → List ByteArray → List ByteArray → Int → Bool → Bool → Option (Bool)
  | 0, _, _, _, _, _, _ => none
  | k + 1, x0, x1, x2, x3, x9, x28 => if x28 = true then (if (x1.length : Int) = 0 then (none) else (if 0 ≤ (Int.tmod (wrap64 (x3)) (x1.length : Int)) then (if (Int.tmod (wrap64 (x3)) (x1.length : Int)) < (x1.length : Int) then (archivistlaw01_QuoteParts.j1 k (rdOf ByteArray.empty x1 (Int.tmod (wrap64 (x3)) (x1.length : Int))) x1 x2 x3 x9) else (none)) else (none))) else (archivistlaw01_QuoteParts.j1 k x0 x1 x2 x3 x9)
def archivistlaw01_QuoteParts.j1 : Nat → ByteArray → List ByteArray → List ByteArray → Int → Bool → Option (Bool)
  | 0, _, _, _, _, _ => none
  | k + 1, x0, x1, x2, x3, x9 => archivistlaw01_QuoteParts.l0 k x0 x1 x2 x3 x9 x0 0
def archivistlaw01_QuoteParts.j3 : Nat → ByteArray → List ByteArray → List ByteArray → Bool → ByteArray → Option (Bool)
  | 0, _, _, _, _, _ => none
  | k + 1, x0, x1, x2, x9, x10 => (quote_Cut.f k x10 x2).bind fun bt242 => ((archivistref01_Cut.f k x10 x2).bind fun bt245 => (if x9 = true then ((quote_Join.f x0 x1).bind fun t248 => ((archivistref01_Join.f k x0 x1).bind fun t249 => (if t248.toList = t249.toList then ((quote_Among.f k x0 x1).bind fun t250 => ((archivistref01_Among.f k x0 x1).bind fun t251 => (if t250 = t251 then (if bt242.1.toList = bt245.1.toList then (if bt242.2.1.toList = bt245.2.1.toList then (some (bt242.2.2.toList == bt245.2.2.toList)) else (none)) else (none)) else (none)))) else (none)))) else (none)))
def archivistlaw01_QuoteParts.l0 : Nat → ByteArray → List ByteArray → List ByteArray → Int → Bool → ByteArray → Int → Option (Bool)
  | 0, _, _, _, _, _, _, _ => none
  | k + 1, x0, x1, x2, x3, x9, x10, x11 => if x11 < (x1.length : Int) then (if x11 < 4 then (if (Int.tmod x3 3) = 0 then (if 0 ≤ x11 then (if x10.size + (rdOf ByteArray.empty x1 x11).size ≤ 9223372036854775807 then (archivistlaw01_QuoteParts.l0 k x0 x1 x2 x3 x9 (x10 ++ (rdOf ByteArray.empty x1 x11)) (wrap64 (x11 + 1))) else (none)) else (none)) else (archivistlaw01_QuoteParts.j3 k x0 x1 x2 x9 x10)) else (archivistlaw01_QuoteParts.j3 k x0 x1 x2 x9 x10)) else (archivistlaw01_QuoteParts.j3 k x0 x1 x2 x9 x10)
end
def archivistlaw01_QuoteParts.f (k : Nat) (a0 : ByteArray) (l1 : List ByteArray) (l2 : List ByteArray) (a3 : Int) : Option (Bool) := (archivistlaw01_examples.f k).bind fun t239 => (if t239 = true then (if (l1.length : Int) > 0 then (archivistlaw01_QuoteParts.j0 k a0 l1 l2 a3 t239 ((Int.tmod a3 2) == 0)) else (archivistlaw01_QuoteParts.j0 k a0 l1 l2 a3 t239 false)) else (none))
theorem archivistlaw01_QuoteParts.mono_l : ∀ k, (∀ y0 y1 y2 y3 y4 y5, LeO (archivistlaw01_QuoteParts.j0 k y0 y1 y2 y3 y4 y5) (archivistlaw01_QuoteParts.j0 (k + 1) y0 y1 y2 y3 y4 y5)) ∧ (∀ y0 y1 y2 y3 y4, LeO (archivistlaw01_QuoteParts.j1 k y0 y1 y2 y3 y4) (archivistlaw01_QuoteParts.j1 (k + 1) y0 y1 y2 y3 y4)) ∧ (∀ y0 y1 y2 y3 y4, LeO (archivistlaw01_QuoteParts.j3 k y0 y1 y2 y3 y4) (archivistlaw01_QuoteParts.j3 (k + 1) y0 y1 y2 y3 y4)) ∧ (∀ y0 y1 y2 y3 y4 y5 y6, LeO (archivistlaw01_QuoteParts.l0 k y0 y1 y2 y3 y4 y5 y6) (archivistlaw01_QuoteParts.l0 (k + 1) y0 y1 y2 y3 y4 y5 y6))
  | 0 => ⟨fun _ _ _ _ _ _ r h => by simp [archivistlaw01_QuoteParts.j0] at h, fun _ _ _ _ _ r h => by simp [archivistlaw01_QuoteParts.j1] at h, fun _ _ _ _ _ r h => by simp [archivistlaw01_QuoteParts.j3] at h, fun _ _ _ _ _ _ _ r h => by simp [archivistlaw01_QuoteParts.l0] at h⟩
  | k + 1 => by
    obtain ⟨ih0, ih1, ih2, ih3⟩ := archivistlaw01_QuoteParts.mono_l k
    refine ⟨?_, ?_, ?_, ?_⟩
    · intro y0 y1 y2 y3 y4 y5
      unfold archivistlaw01_QuoteParts.j0
      repeat' first
      | (with_reducible exact ih0 _ _ _ _ _ _)
      | (with_reducible exact ih1 _ _ _ _ _)
      | (with_reducible exact ih2 _ _ _ _ _)
      | (with_reducible exact ih3 _ _ _ _ _ _ _)
      | (with_reducible exact archivistlaw01_examples.mono _)
      | (with_reducible exact archivistref01_Among.mono _ _ _)
      | (with_reducible exact archivistref01_Cut.mono _ _ _)
      | (with_reducible exact archivistref01_Join.mono _ _ _)
      | (with_reducible exact quote_Among.mono _ _ _)
      | (with_reducible exact quote_Cut.mono _ _ _)
      | (with_reducible exact LeO.refl _)
      | (with_reducible exact LeO.none _)
      | (with_reducible refine LeO.ite ?_ ?_)
      | (with_reducible refine LeO.bind ?_ (fun _ => ?_))
      | exact ih0 _ _ _ _ _ _
      | exact ih1 _ _ _ _ _
      | exact ih2 _ _ _ _ _
      | exact ih3 _ _ _ _ _ _ _
      | exact archivistlaw01_examples.mono _
      | exact archivistref01_Among.mono _ _ _
      | exact archivistref01_Cut.mono _ _ _
      | exact archivistref01_Join.mono _ _ _
      | exact quote_Among.mono _ _ _
      | exact quote_Cut.mono _ _ _
      | exact LeO.none _
      | refine LeO.ite ?_ ?_
      | refine LeO.bind ?_ (fun _ => ?_)
    · intro y0 y1 y2 y3 y4
      unfold archivistlaw01_QuoteParts.j1
      repeat' first
      | (with_reducible exact ih0 _ _ _ _ _ _)
      | (with_reducible exact ih1 _ _ _ _ _)
      | (with_reducible exact ih2 _ _ _ _ _)
      | (with_reducible exact ih3 _ _ _ _ _ _ _)
      | (with_reducible exact archivistlaw01_examples.mono _)
      | (with_reducible exact archivistref01_Among.mono _ _ _)
      | (with_reducible exact archivistref01_Cut.mono _ _ _)
      | (with_reducible exact archivistref01_Join.mono _ _ _)
      | (with_reducible exact quote_Among.mono _ _ _)
      | (with_reducible exact quote_Cut.mono _ _ _)
      | (with_reducible exact LeO.refl _)
      | (with_reducible exact LeO.none _)
      | (with_reducible refine LeO.ite ?_ ?_)
      | (with_reducible refine LeO.bind ?_ (fun _ => ?_))
      | exact ih0 _ _ _ _ _ _
      | exact ih1 _ _ _ _ _
      | exact ih2 _ _ _ _ _
      | exact ih3 _ _ _ _ _ _ _
      | exact archivistlaw01_examples.mono _
      | exact archivistref01_Among.mono _ _ _
      | exact archivistref01_Cut.mono _ _ _
      | exact archivistref01_Join.mono _ _ _
      | exact quote_Among.mono _ _ _
      | exact quote_Cut.mono _ _ _
      | exact LeO.none _
      | refine LeO.ite ?_ ?_
      | refine LeO.bind ?_ (fun _ => ?_)
    · intro y0 y1 y2 y3 y4
      unfold archivistlaw01_QuoteParts.j3
      repeat' first
      | (with_reducible exact ih0 _ _ _ _ _ _)
      | (with_reducible exact ih1 _ _ _ _ _)
      | (with_reducible exact ih2 _ _ _ _ _)
      | (with_reducible exact ih3 _ _ _ _ _ _ _)
      | (with_reducible exact archivistlaw01_examples.mono _)
      | (with_reducible exact archivistref01_Among.mono _ _ _)
      | (with_reducible exact archivistref01_Cut.mono _ _ _)
      | (with_reducible exact archivistref01_Join.mono _ _ _)
      | (with_reducible exact quote_Among.mono _ _ _)
      | (with_reducible exact quote_Cut.mono _ _ _)
      | (with_reducible exact LeO.refl _)
      | (with_reducible exact LeO.none _)
      | (with_reducible refine LeO.ite ?_ ?_)
      | (with_reducible refine LeO.bind ?_ (fun _ => ?_))
      | exact ih0 _ _ _ _ _ _
      | exact ih1 _ _ _ _ _
      | exact ih2 _ _ _ _ _
      | exact ih3 _ _ _ _ _ _ _
      | exact archivistlaw01_examples.mono _
      | exact archivistref01_Among.mono _ _ _
      | exact archivistref01_Cut.mono _ _ _
      | exact archivistref01_Join.mono _ _ _
      | exact quote_Among.mono _ _ _
      | exact quote_Cut.mono _ _ _
      | exact LeO.none _
      | refine LeO.ite ?_ ?_
      | refine LeO.bind ?_ (fun _ => ?_)
    · intro y0 y1 y2 y3 y4 y5 y6
      unfold archivistlaw01_QuoteParts.l0
      repeat' first
      | (with_reducible exact ih0 _ _ _ _ _ _)
      | (with_reducible exact ih1 _ _ _ _ _)
      | (with_reducible exact ih2 _ _ _ _ _)
      | (with_reducible exact ih3 _ _ _ _ _ _ _)
      | (with_reducible exact archivistlaw01_examples.mono _)
      | (with_reducible exact archivistref01_Among.mono _ _ _)
      | (with_reducible exact archivistref01_Cut.mono _ _ _)
      | (with_reducible exact archivistref01_Join.mono _ _ _)
      | (with_reducible exact quote_Among.mono _ _ _)
      | (with_reducible exact quote_Cut.mono _ _ _)
      | (with_reducible exact LeO.refl _)
      | (with_reducible exact LeO.none _)
      | (with_reducible refine LeO.ite ?_ ?_)
      | (with_reducible refine LeO.bind ?_ (fun _ => ?_))
      | exact ih0 _ _ _ _ _ _
      | exact ih1 _ _ _ _ _
      | exact ih2 _ _ _ _ _
      | exact ih3 _ _ _ _ _ _ _
      | exact archivistlaw01_examples.mono _
      | exact archivistref01_Among.mono _ _ _
      | exact archivistref01_Cut.mono _ _ _
      | exact archivistref01_Join.mono _ _ _
      | exact quote_Among.mono _ _ _
      | exact quote_Cut.mono _ _ _
      | exact LeO.none _
      | refine LeO.ite ?_ ?_
      | refine LeO.bind ?_ (fun _ => ?_)
theorem archivistlaw01_QuoteParts.mono : ∀ a0 a1 a2 a3 k, LeO (archivistlaw01_QuoteParts.f k a0 a1 a2 a3) (archivistlaw01_QuoteParts.f (k + 1) a0 a1 a2 a3) := by
  intro a0 a1 a2 a3 k
  obtain ⟨ih0, ih1, ih2, ih3⟩ := archivistlaw01_QuoteParts.mono_l k
  unfold archivistlaw01_QuoteParts.f
  repeat' first
      | (with_reducible exact ih0 _ _ _ _ _ _)
      | (with_reducible exact ih1 _ _ _ _ _)
      | (with_reducible exact ih2 _ _ _ _ _)
      | (with_reducible exact ih3 _ _ _ _ _ _ _)
      | (with_reducible exact archivistlaw01_examples.mono _)
      | (with_reducible exact archivistref01_Among.mono _ _ _)
      | (with_reducible exact archivistref01_Cut.mono _ _ _)
      | (with_reducible exact archivistref01_Join.mono _ _ _)
      | (with_reducible exact quote_Among.mono _ _ _)
      | (with_reducible exact quote_Cut.mono _ _ _)
      | (with_reducible exact LeO.refl _)
      | (with_reducible exact LeO.none _)
      | (with_reducible refine LeO.ite ?_ ?_)
      | (with_reducible refine LeO.bind ?_ (fun _ => ?_))
      | exact ih0 _ _ _ _ _ _
      | exact ih1 _ _ _ _ _
      | exact ih2 _ _ _ _ _
      | exact ih3 _ _ _ _ _ _ _
      | exact archivistlaw01_examples.mono _
      | exact archivistref01_Among.mono _ _ _
      | exact archivistref01_Cut.mono _ _ _
      | exact archivistref01_Join.mono _ _ _
      | exact quote_Among.mono _ _ _
      | exact quote_Cut.mono _ _ _
      | exact LeO.none _
      | refine LeO.ite ?_ ?_
      | refine LeO.bind ?_ (fun _ => ?_)
set_option maxHeartbeats 8000000 in
set_option maxRecDepth 100000 in
theorem archivistlaw01_QuoteParts.calls (k : Nat) (a0 : ByteArray) (A1 : Option Addr) (c1 : Nat) (l1 : List ByteArray) (A2 : Option Addr) (c2 : Nat) (l2 : List ByteArray) (a3 : Int) (r : Bool) (w : World) (hr1 : Kd.C Kd.string w A1 l1.length l1) (hc1 : l1.length ≤ c1) (hr2 : Kd.C Kd.string w A2 l2.length l2) (hc2 : l2.length ≤ c2) (h : archivistlaw01_QuoteParts.f k a0 l1 l2 a3 = some r) :
    Calls Try.prog 9 #[.string a0, .slice A1 l1.length c1, .slice A2 l2.length c2, .int .u8 a3] w fun e w' => e = .returned (.bool r) ∧ Below w.heap.size w w' := by
  have HR1 := Aside0.mk hr1
  have HC1 := Aside0.mk hc1
  clear hr1 hc1
  have HR2 := Aside0.mk hr2
  have HC2 := Aside0.mk hc2
  clear hr2 hc2
  have HB := Aside0.mk (Below.refl w.heap.size w)
  have H : ((archivistlaw01_examples.f k).bind fun t239 => (if t239 = true then (if (l1.length : Int) > 0 then (archivistlaw01_QuoteParts.j0 k a0 l1 l2 a3 t239 ((Int.tmod a3 2) == 0)) else (archivistlaw01_QuoteParts.j0 k a0 l1 l2 a3 t239 false)) else (none))) = some r := h
  clear h
  replace H := Option.bind_eq_some_iff.mp H
  obtain ⟨t239, A50, H⟩ := H
  replace H : (if t239 = true then (if (l1.length : Int) > 0 then (archivistlaw01_QuoteParts.j0 k a0 l1 l2 a3 t239 ((Int.tmod a3 2) == 0)) else (archivistlaw01_QuoteParts.j0 k a0 l1 l2 a3 t239 false)) else (none)) = some r := H
  have A5 := Aside0.mk A50
  clear A50
  by_cases c6 : t239 = true
  · subst c6
    have H1 : (if (l1.length : Int) > 0 then (archivistlaw01_QuoteParts.j0 k a0 l1 l2 a3 true ((Int.tmod a3 2) == 0)) else (archivistlaw01_QuoteParts.j0 k a0 l1 l2 a3 true false)) = some r := by rw [if_pos rfl] at H; exact H
    clear H
    have H := H1
    clear H1
    have HC7 := Aside0.mk H
    clear H
    go_enter Try.func9, Try.ntmps9
    go_upto_region 4 with (first | ((with_reducible refine gate_callee (f := 22) rfl ?_); refine goesL_ (some 18) rfl rfl Try.func22 (by kernel_rfl) rfl #[] rfl (by (try simp only [List.map_toArray, List.map_cons, List.map_nil]); first | done | rfl | (simp only [List.length_drop, List.length_take]; rfl)) ?_; (with_reducible refine (archivistlaw01_examples.calls k  true _ A5.out).mono ?_); rintro e w8 ⟨rfl, hb⟩; refine ⟨_, rfl, ?_⟩; have n0_ := Aside0.mk (below_step (by repeat (first | (with_reducible first | exact HB.out | apply below_alloc | apply pw_below_drewN | apply below_drew1) | exact HB.out)) hb); clear HB; have HB := n0_; clear n0_; (try clear hb); (try clear hb2); (try clear hk); (try clear hi)))
    (try simp only [Act.put, List.setIfInBounds_toArray, List.set_cons_zero, List.set_cons_succ])
    go_cut [28] (fun v28 wc => ∃ (kq : Nat) (x28_6 : Bool), v28 = .bool x28_6 ∧ Aside0 (archivistlaw01_QuoteParts.j0 kq a0 l1 l2 a3 true x28_6 = some r) ∧ Aside0 (kq ≤ k) ∧ Aside0 (Below w.heap.size w wc))
    case first =>
      have H := HC7.out
      clear HC7
      by_cases c9 : (l1.length : Int) > 0
      · rw [if_pos c9] at H
        have c9b0 : decide (0 < (l1.length : Int)) = true := decide_eq_true c9
        have c9b1 : decide (0 < l1.length) = true := decide_eq_true (by omega)
        clear c9
        (first | rw [c9b0] | (simp only [i64_w, i32_w]; rw [c9b0]) | skip)
        have H' := Aside0.mk H
        clear H
        go_wp2
        go_meet
        case rel => exact ⟨_, (((Int.tmod a3 2) == 0)), (by first | rfl | (simp; done) | (simp [*]; done)), H', ⟨by first | omega | exact Nat.le_refl _⟩, ⟨by repeat (first | (with_reducible first | exact HB.out | apply below_alloc | apply pw_below_drewN | apply below_drew1) | exact HB.out)⟩⟩
      · rw [if_neg c9] at H
        have c9b0 : decide (0 < (l1.length : Int)) = false := decide_eq_false c9
        have c9b1 : decide (0 < l1.length) = false := decide_eq_false (by omega)
        clear c9
        (first | rw [c9b0] | (simp only [i64_w, i32_w]; rw [c9b0]) | skip)
        have H' := Aside0.mk H
        clear H
        go_wp2
        go_meet
        case rel => exact ⟨_, (false), (by first | rfl | (simp; done) | (simp [*]; done)), H', ⟨by first | omega | exact Nat.le_refl _⟩, ⟨by repeat (first | (with_reducible first | exact HB.out | apply below_alloc | apply pw_below_drewN | apply below_drew1) | exact HB.out)⟩⟩
    case rest =>
      clear HC7
      try clear c1
      try clear c2
      try clear p2
      try clear c6
      try clear c9
      try clear c9b0
      try clear c9b1
      obtain ⟨kq, x28_6, rfl, HA, HJ6, HB⟩ := hcut
      cases kq with
      | zero => exact absurd HA.out (by simp [archivistlaw01_QuoteParts.j0])
      | succ kj6 =>
        have H := HA.out
        clear HA
        simp only [archivistlaw01_QuoteParts.j0] at H
        have HC10 := Aside0.mk H
        clear H
        go_upto_if 28 with (fail)
        go_cut [0] (fun v0 wc => ∃ (kq : Nat) (x0_9 : ByteArray), v0 = .string x0_9 ∧ Aside0 (archivistlaw01_QuoteParts.j1 kq x0_9 l1 l2 a3 true = some r) ∧ Aside0 (kq ≤ kj6) ∧ Aside0 (Below w.heap.size w wc))
        case first =>
          have H := HC10.out
          clear HC10
          by_cases c11 : x28_6 = true
          · subst c11
            have H1 : (if (l1.length : Int) = 0 then (none) else (if 0 ≤ (Int.tmod (wrap64 (a3)) (l1.length : Int)) then (if (Int.tmod (wrap64 (a3)) (l1.length : Int)) < (l1.length : Int) then (archivistlaw01_QuoteParts.j1 kj6 (rdOf ByteArray.empty l1 (Int.tmod (wrap64 (a3)) (l1.length : Int))) l1 l2 a3 true) else (none)) else (none))) = some r := by rw [if_pos rfl] at H; exact H
            clear H
            have H := H1
            clear H1
            by_cases c12 : (l1.length : Int) = 0
            · rw [if_pos c12] at H
              exact absurd H (by simp)
            · rw [if_neg c12] at H
              have c12b0 : ((l1.length : Int) == 0) = false := beq_eq_false_iff_ne.mpr c12
              have c12b1 : ((l1.length : Int) != 0) = true := bne_iff_ne.mpr c12
              have c12b2 : ¬ (l1 = []) := fun h_ => c12 (by rw [h_]; rfl)
              (first | rw [c12b0] | (simp only [i64_w, i32_w]; rw [c12b0]) | skip)
              obtain ⟨ji13, hji13⟩ : ∃ j_ : Int, (Int.tmod (wrap64 (a3)) (l1.length : Int)) = j_ := ⟨_, rfl⟩
              replace H : (if 0 ≤ (ji13) then (if (ji13) < (l1.length : Int) then (archivistlaw01_QuoteParts.j1 kj6 (rdOf ByteArray.empty l1 (ji13)) l1 l2 a3 true) else (none)) else (none)) = some r := by first | (rw [hji13] at H; exact H) | (simp only [hji13] at H ⊢; exact H)
              by_cases c14 : 0 ≤ (ji13)
              · rw [if_pos c14] at H
                have c14b0 : decide (0 ≤ (ji13)) = true := decide_eq_true c14
                clear c14
                by_cases c15 : (ji13) < (l1.length : Int)
                · rw [if_pos c15] at H
                  have c15b0 : decide ((ji13) < (l1.length : Int)) = true := decide_eq_true c15
                  clear c15
                  have H' := Aside0.mk H
                  clear H
                  have p240 : 0 ≤ ((ji13) : Int) := of_decide_eq_true (by first | (with_reducible assumption) | assumption)
                  have q240 : (ji13) < (l1.length : Int) := of_decide_eq_true (by first | (with_reducible assumption) | assumption)
                  obtain ⟨ad240, e240, hx240_0⟩ := Kd.at_string HR1.out (ji13) p240 q240
                  cases e240
                  replace hx240_0 := (HB.out.cell (World.block_lt_of_cell? w _ hx240_0)).trans hx240_0
                  replace p240 := eq_true p240
                  replace q240 := eq_true q240
                  go_wp2
                  go_meet
                  case rel => exact ⟨_, (rdOf ByteArray.empty l1 (ji13)), (by first | rfl | (simp; done) | (simp only [← hji13] <;> (first | rfl | simp)) | (simp [*]; done)), H', ⟨by have := HJ6.out; first | omega | exact Nat.le_refl _⟩, ⟨by repeat (first | (with_reducible first | exact HB.out | apply below_alloc | apply pw_below_drewN | apply below_drew1) | exact HB.out)⟩⟩
                · rw [if_neg c15] at H
                  exact absurd H (by simp)
              · rw [if_neg c14] at H
                exact absurd H (by simp)
          · replace c11 := Bool.eq_false_iff.mpr c11
            subst c11
            have H1 : (archivistlaw01_QuoteParts.j1 kj6 a0 l1 l2 a3 true) = some r := by rw [if_neg (show ¬ (false = true) by decide)] at H; exact H
            clear H
            have H := H1
            clear H1
            have H' := Aside0.mk H
            clear H
            go_wp2
            go_meet
            case rel => exact ⟨_, (a0), (by first | rfl | (simp; done) | (simp [*]; done)), H', ⟨by have := HJ6.out; first | omega | exact Nat.le_refl _⟩, ⟨by repeat (first | (with_reducible first | exact HB.out | apply below_alloc | apply pw_below_drewN | apply below_drew1) | exact HB.out)⟩⟩
        case rest =>
          clear HC10
          try clear c1
          try clear c2
          try clear p2
          try clear q2
          try clear hx2
          try clear c6
          try clear p6
          try clear c9
          try clear c9b0
          try clear c9b1
          try clear c11
          try clear c12
          try clear c12b0
          try clear c12b1
          try clear c12b2
          try clear c14
          try clear c14b0
          try clear c15
          try clear c15b0
          try clear hx240_0
          try clear p2
          try clear p240
          try clear q240
          obtain ⟨kq, x0_9, rfl, HA, HJ9, HB⟩ := hcut
          cases kq with
          | zero => exact absurd HA.out (by simp [archivistlaw01_QuoteParts.j1])
          | succ kj9 =>
            have H := HA.out
            clear HA
            simp only [archivistlaw01_QuoteParts.j1] at H
            have HC16 := Aside0.mk H
            clear H
            go_upto_block 0 with (fail)
            go_cut [10] (fun v10 wc => ∃ (kq : Nat) (x10_15 : ByteArray), v10 = .string x10_15 ∧ Aside0 (archivistlaw01_QuoteParts.j3 kq x0_9 l1 l2 true x10_15 = some r) ∧ Aside0 (kq ≤ kj9) ∧ Aside0 (Below w.heap.size w wc))
            case first =>
              have H := HC16.out
              clear HC16
              have H' := Aside0.mk H
              clear H
              go_wp2
              go_loopg [10, 11] kj9 (fun kq v10 v11 w' => ∃ (x10_3 : ByteArray) (x11_3 : Int), v10 = .string x10_3 ∧ v11 = .int .i64 x11_3 ∧ Aside0 (archivistlaw01_QuoteParts.l0 kq x0_9 l1 l2 a3 true x10_3 x11_3 = some r) ∧ Aside0 (kq ≤ kj9) ∧ Aside0 (Below w.heap.size w w'))
              case atStart => exact ⟨(x0_9), (0), (by first | rfl | (simp; done) | (simp [*]; done)), (by first | rfl | (simp; done) | (simp [*]; done)), H', ⟨Nat.le_refl _⟩, ⟨by repeat (first | (with_reducible first | exact HB.out | apply below_alloc | apply pw_below_drewN | apply below_drew1) | exact HB.out)⟩⟩
              case round =>
                clear H'
                try clear c1
                try clear c2
                try clear p2
                try clear q2
                try clear hx2
                try clear c6
                try clear p6
                try clear c9
                try clear c9b0
                try clear c9b1
                try clear c11
                try clear c12
                try clear c12b0
                try clear c12b1
                try clear c12b2
                try clear c14
                try clear c14b0
                try clear c15
                try clear c15b0
                try clear hx240_0
                try clear p2
                try clear p240
                try clear p6
                try clear q2
                try clear q240
                obtain ⟨x10_3, x11_3, rfl, rfl, HA, HK3, HB⟩ := hrel
                cases gk with
                | zero => exact absurd HA.out (by simp [archivistlaw01_QuoteParts.l0])
                | succ k3 =>
                  have H := HA.out
                  clear HA
                  simp only [archivistlaw01_QuoteParts.l0] at H
                  by_cases c17 : x11_3 < (l1.length : Int)
                  · rw [if_pos c17] at H
                    have c17b0 : decide (x11_3 < (l1.length : Int)) = true := decide_eq_true c17
                    clear c17
                    (first | rw [c17b0] | (simp only [i64_w, i32_w]; rw [c17b0]) | skip)
                    by_cases c18 : x11_3 < 4
                    · rw [if_pos c18] at H
                      have c18b0 : decide (x11_3 < 4) = true := decide_eq_true c18
                      clear c18
                      by_cases c19 : (Int.tmod a3 3) = 0
                      · rw [if_pos c19] at H
                        have c19b0 : ((Int.tmod a3 3) == 0) = true := beq_iff_eq.mpr c19
                        have c19b1 : ((Int.tmod a3 3) != 0) = false := bne_eq_false_iff_eq.mpr c19
                        clear c19
                        by_cases c20 : 0 ≤ x11_3
                        · rw [if_pos c20] at H
                          have c20b0 : decide (0 ≤ x11_3) = true := decide_eq_true c20
                          clear c20
                          by_cases c21 : x10_3.size + (rdOf ByteArray.empty l1 x11_3).size ≤ 9223372036854775807
                          · rw [if_pos c21] at H
                            have c21b0 := eq_true c21
                            have c21b1 : decide (x10_3.size + (rdOf ByteArray.empty l1 x11_3).size ≤ 9223372036854775807) = true := decide_eq_true c21
                            try have c21b2 : (9223372036854775807 < x10_3.size + (rdOf ByteArray.empty l1 x11_3).size) = False := eq_false (Nat.not_lt.2 c21)
                            have H' := Aside0.mk H
                            clear H
                            have p241 : 0 ≤ (x11_3 : Int) := of_decide_eq_true (by first | (with_reducible assumption) | assumption)
                            have q241 : x11_3 < (l1.length : Int) := of_decide_eq_true (by first | (with_reducible assumption) | assumption)
                            obtain ⟨ad241, e241, hx241_0⟩ := Kd.at_string HR1.out x11_3 p241 q241
                            cases e241
                            replace hx241_0 := (HB.out.cell (World.block_lt_of_cell? w _ hx241_0)).trans hx241_0
                            replace p241 := eq_true p241
                            replace q241 := eq_true q241
                            go_wp2
                            go_roundg k3
                            case measure => have := HJ6.out; have := HJ9.out; have := HK3.out; omega
                            case rel => exact ⟨(x10_3 ++ (rdOf ByteArray.empty l1 x11_3)), (wrap64 (x11_3 + 1)), (by first | rfl | (simp; done) | (simp [*]; done)), (by first | rfl | (simp; done) | (simp [*]; done)), H', ⟨by have := HJ6.out; have := HJ9.out; have := HK3.out; omega⟩, ⟨by repeat (first | (with_reducible first | exact HB.out | apply below_alloc | apply pw_below_drewN | apply below_drew1) | exact HB.out)⟩⟩
                          · rw [if_neg c21] at H
                            exact absurd H (by simp)
                        · rw [if_neg c20] at H
                          exact absurd H (by simp)
                      · rw [if_neg c19] at H
                        have c19b0 : ((Int.tmod a3 3) == 0) = false := beq_eq_false_iff_ne.mpr c19
                        have c19b1 : ((Int.tmod a3 3) != 0) = true := bne_iff_ne.mpr c19
                        have H' := Aside0.mk H
                        clear H
                        go_wp2
                        go_meet
                        case rel => exact ⟨_, (x10_3), (by first | rfl | (simp; done) | (simp [*]; done)), H', ⟨by have := HJ6.out; have := HJ9.out; have := HK3.out; first | omega | exact Nat.le_refl _⟩, ⟨by repeat (first | (with_reducible first | exact HB.out | apply below_alloc | apply pw_below_drewN | apply below_drew1) | exact HB.out)⟩⟩
                    · rw [if_neg c18] at H
                      have c18b0 : decide (x11_3 < 4) = false := decide_eq_false c18
                      clear c18
                      have H' := Aside0.mk H
                      clear H
                      go_wp2
                      go_meet
                      case rel => exact ⟨_, (x10_3), (by first | rfl | (simp; done) | (simp [*]; done)), H', ⟨by have := HJ6.out; have := HJ9.out; have := HK3.out; first | omega | exact Nat.le_refl _⟩, ⟨by repeat (first | (with_reducible first | exact HB.out | apply below_alloc | apply pw_below_drewN | apply below_drew1) | exact HB.out)⟩⟩
                  · rw [if_neg c17] at H
                    have c17b0 : decide (x11_3 < (l1.length : Int)) = false := decide_eq_false c17
                    clear c17
                    (first | rw [c17b0] | (simp only [i64_w, i32_w]; rw [c17b0]) | skip)
                    have H' := Aside0.mk H
                    clear H
                    go_wp2
                    go_meet
                    case rel => exact ⟨_, (x10_3), (by first | rfl | (simp; done) | (simp [*]; done)), H', ⟨by have := HJ6.out; have := HJ9.out; have := HK3.out; first | omega | exact Nat.le_refl _⟩, ⟨by repeat (first | (with_reducible first | exact HB.out | apply below_alloc | apply pw_below_drewN | apply below_drew1) | exact HB.out)⟩⟩
            case rest =>
              clear HC16
              try clear c1
              try clear c2
              try clear p2
              try clear q2
              try clear hx2
              try clear c6
              try clear p6
              try clear c9
              try clear c9b0
              try clear c9b1
              try clear c11
              try clear c12
              try clear c12b0
              try clear c12b1
              try clear c12b2
              try clear c14
              try clear c14b0
              try clear c15
              try clear c15b0
              try clear c17
              try clear c17b0
              try clear c18
              try clear c18b0
              try clear c19
              try clear c19b0
              try clear c19b1
              try clear c20
              try clear c20b0
              try clear c21
              try clear c21b0
              try clear c21b1
              try clear c21b2
              try clear hx240_0
              try clear hx241_0
              try clear p2
              try clear p240
              try clear p241
              try clear p6
              try clear q2
              try clear q240
              try clear q241
              obtain ⟨kq, x10_15, rfl, HA, HJ15, HB⟩ := hcut
              cases kq with
              | zero => exact absurd HA.out (by simp [archivistlaw01_QuoteParts.j3])
              | succ kj15 =>
                have H := HA.out
                clear HA
                simp only [archivistlaw01_QuoteParts.j3] at H
                replace H := Option.bind_eq_some_iff.mp H
                obtain ⟨⟨t242, t243, t244⟩, A220, H⟩ := H
                replace H : ((archivistref01_Cut.f kj15 x10_15 l2).bind fun bt245 => (if true = true then ((quote_Join.f x0_9 l1).bind fun t248 => ((archivistref01_Join.f kj15 x0_9 l1).bind fun t249 => (if t248.toList = t249.toList then ((quote_Among.f kj15 x0_9 l1).bind fun t250 => ((archivistref01_Among.f kj15 x0_9 l1).bind fun t251 => (if t250 = t251 then (if t242.toList = bt245.1.toList then (if t243.toList = bt245.2.1.toList then (some (t244.toList == bt245.2.2.toList)) else (none)) else (none)) else (none)))) else (none)))) else (none))) = some r := H
                have A22 := Aside0.mk A220
                clear A220
                replace H := Option.bind_eq_some_iff.mp H
                obtain ⟨⟨t245, t246, t247⟩, A230, H⟩ := H
                replace H : (if true = true then ((quote_Join.f x0_9 l1).bind fun t248 => ((archivistref01_Join.f kj15 x0_9 l1).bind fun t249 => (if t248.toList = t249.toList then ((quote_Among.f kj15 x0_9 l1).bind fun t250 => ((archivistref01_Among.f kj15 x0_9 l1).bind fun t251 => (if t250 = t251 then (if t242.toList = t245.toList then (if t243.toList = t246.toList then (some (t244.toList == t247.toList)) else (none)) else (none)) else (none)))) else (none)))) else (none)) = some r := H
                have A23 := Aside0.mk A230
                clear A230
                by_cases c24 : true = true
                · clear c24
                  have H1 : ((quote_Join.f x0_9 l1).bind fun t248 => ((archivistref01_Join.f kj15 x0_9 l1).bind fun t249 => (if t248.toList = t249.toList then ((quote_Among.f kj15 x0_9 l1).bind fun t250 => ((archivistref01_Among.f kj15 x0_9 l1).bind fun t251 => (if t250 = t251 then (if t242.toList = t245.toList then (if t243.toList = t246.toList then (some (t244.toList == t247.toList)) else (none)) else (none)) else (none)))) else (none)))) = some r := by first | (rw [if_pos rfl] at H; exact H) | (rw [if_pos trivial] at H; exact H)
                  clear H
                  have H := H1
                  clear H1
                  replace H := Option.bind_eq_some_iff.mp H
                  obtain ⟨t248, A250, H⟩ := H
                  replace H : ((archivistref01_Join.f kj15 x0_9 l1).bind fun t249 => (if t248.toList = t249.toList then ((quote_Among.f kj15 x0_9 l1).bind fun t250 => ((archivistref01_Among.f kj15 x0_9 l1).bind fun t251 => (if t250 = t251 then (if t242.toList = t245.toList then (if t243.toList = t246.toList then (some (t244.toList == t247.toList)) else (none)) else (none)) else (none)))) else (none))) = some r := H
                  have A25 := Aside0.mk A250
                  clear A250
                  replace H := Option.bind_eq_some_iff.mp H
                  obtain ⟨t249, A260, H⟩ := H
                  replace H : (if t248.toList = t249.toList then ((quote_Among.f kj15 x0_9 l1).bind fun t250 => ((archivistref01_Among.f kj15 x0_9 l1).bind fun t251 => (if t250 = t251 then (if t242.toList = t245.toList then (if t243.toList = t246.toList then (some (t244.toList == t247.toList)) else (none)) else (none)) else (none)))) else (none)) = some r := H
                  have A26 := Aside0.mk A260
                  clear A260
                  by_cases c27 : t248.toList = t249.toList
                  · rw [if_pos c27] at H
                    have c27b0 : (t248.toList == t249.toList) = true := beq_iff_eq.mpr c27
                    have c27b1 : (t248.toList != t249.toList) = false := bne_eq_false_iff_eq.mpr c27
                    clear c27
                    replace H := Option.bind_eq_some_iff.mp H
                    obtain ⟨t250, A280, H⟩ := H
                    replace H : ((archivistref01_Among.f kj15 x0_9 l1).bind fun t251 => (if t250 = t251 then (if t242.toList = t245.toList then (if t243.toList = t246.toList then (some (t244.toList == t247.toList)) else (none)) else (none)) else (none))) = some r := H
                    have A28 := Aside0.mk A280
                    clear A280
                    replace H := Option.bind_eq_some_iff.mp H
                    obtain ⟨t251, A290, H⟩ := H
                    replace H : (if t250 = t251 then (if t242.toList = t245.toList then (if t243.toList = t246.toList then (some (t244.toList == t247.toList)) else (none)) else (none)) else (none)) = some r := H
                    have A29 := Aside0.mk A290
                    clear A290
                    by_cases c30 : t250 = t251
                    · rw [if_pos c30] at H
                      have c30b0 : (t250 == t251) = true := beq_iff_eq.mpr c30
                      have c30b1 : (t250 != t251) = false := bne_eq_false_iff_eq.mpr c30
                      clear c30
                      by_cases c31 : t242.toList = t245.toList
                      · rw [if_pos c31] at H
                        have c31b0 : (t242.toList == t245.toList) = true := beq_iff_eq.mpr c31
                        have c31b1 : (t242.toList != t245.toList) = false := bne_eq_false_iff_eq.mpr c31
                        clear c31
                        by_cases c32 : t243.toList = t246.toList
                        · rw [if_pos c32] at H
                          have c32b0 : (t243.toList == t246.toList) = true := beq_iff_eq.mpr c32
                          have c32b1 : (t243.toList != t246.toList) = false := bne_eq_false_iff_eq.mpr c32
                          clear c32
                          obtain rfl := Option.some.inj H
                          go_wp2_with (first | ((with_reducible refine gate_callee (f := 27) rfl ?_); refine goesL_ (some 62) rfl rfl Try.func27 (by kernel_rfl) rfl #[.string x10_15, .slice A2 l2.length c2] rfl (by (try simp only [List.map_toArray, List.map_cons, List.map_nil]); first | done | rfl | (simp only [List.length_drop, List.length_take]; rfl)) ?_; (with_reducible refine (quote_Cut.calls kj15 x10_15 _ _ l2 t242 t243 t244 _ ?side1 ?side2 A22.out).mono ?_); (case side1 => repeat (first | exact (Kd.C_below HR2.out HB.out) | (with_reducible refine Kd.C_alloc ?_ _) | (with_reducible refine Kd.C_drewN ?_ _) | (with_reducible refine Kd.C_drew ?_))); (case side2 => exact HC2.out); rintro e w' ⟨rfl, ⟨nd, rfl⟩⟩; refine ⟨_, rfl, ?_⟩) | ((with_reducible refine gate_callee (f := 28) rfl ?_); refine goesL_ (some 69) rfl rfl Try.func28 (by kernel_rfl) rfl #[.string x10_15, .slice A2 l2.length c2] rfl (by (try simp only [List.map_toArray, List.map_cons, List.map_nil]); first | done | rfl | (simp only [List.length_drop, List.length_take]; rfl)) ?_; (with_reducible refine (archivistref01_Cut.calls kj15 x10_15 _ _ l2 t245 t246 t247 _ ?side1 ?side2 A23.out).mono ?_); (case side1 => repeat (first | exact (Kd.C_below HR2.out (by repeat (first | (with_reducible first | exact HB.out | apply below_alloc | apply pw_below_drewN | apply below_drew1) | exact HB.out))) | (with_reducible refine Kd.C_alloc ?_ _) | (with_reducible refine Kd.C_drewN ?_ _) | (with_reducible refine Kd.C_drew ?_))); (case side2 => exact HC2.out); rintro e w' ⟨rfl, ⟨nd, rfl⟩⟩; refine ⟨_, rfl, ?_⟩) | (go_at_call 29; (with_reducible refine (quote_Join.calls x0_9 _ _ l1 t248 _ ?side1 ?side2 A25.out).mono ?_); (case side1 => repeat (first | exact (Kd.C_below HR1.out (by repeat (first | (with_reducible first | exact HB.out | apply below_alloc | apply pw_below_drewN | apply below_drew1) | exact HB.out))) | (with_reducible refine Kd.C_alloc ?_ _) | (with_reducible refine Kd.C_drewN ?_ _) | (with_reducible refine Kd.C_drew ?_))); (case side2 => exact HC1.out); rintro e w33 ⟨rfl, hb⟩; have n0_ := Aside0.mk (below_step (by repeat (first | (with_reducible first | exact HB.out | apply below_alloc | apply pw_below_drewN | apply below_drew1) | exact HB.out)) hb); clear HB; have HB := n0_; clear n0_; (try clear hb); (try clear hb2); (try clear hk); (try clear hi)) | (go_at_call 30; (with_reducible refine (archivistref01_Join.calls kj15 x0_9 _ _ l1 t249 _ ?side1 ?side2 A26.out).mono ?_); (case side1 => repeat (first | exact (Kd.C_below HR1.out HB.out) | (with_reducible refine Kd.C_alloc ?_ _) | (with_reducible refine Kd.C_drewN ?_ _) | (with_reducible refine Kd.C_drew ?_))); (case side2 => exact HC1.out); rintro e w' ⟨rfl, ⟨nd, rfl⟩⟩) | (go_at_call 31; (with_reducible refine (quote_Among.calls kj15 x0_9 _ _ l1 t250 _ ?side1 ?side2 A28.out).mono ?_); (case side1 => repeat (first | exact (Kd.C_below HR1.out (by repeat (first | (with_reducible first | exact HB.out | apply below_alloc | apply pw_below_drewN | apply below_drew1) | exact HB.out))) | (with_reducible refine Kd.C_alloc ?_ _) | (with_reducible refine Kd.C_drewN ?_ _) | (with_reducible refine Kd.C_drew ?_))); (case side2 => exact HC1.out); rintro e w' ⟨rfl, ⟨nd, rfl⟩⟩) | (go_at_call 32; (with_reducible refine (archivistref01_Among.calls kj15 x0_9 _ _ l1 t251 _ ?side1 ?side2 A29.out).mono ?_); (case side1 => repeat (first | exact (Kd.C_below HR1.out (by repeat (first | (with_reducible first | exact HB.out | apply below_alloc | apply pw_below_drewN | apply below_drew1) | exact HB.out))) | (with_reducible refine Kd.C_alloc ?_ _) | (with_reducible refine Kd.C_drewN ?_ _) | (with_reducible refine Kd.C_drew ?_))); (case side2 => exact HC1.out); rintro e w' ⟨rfl, ⟨nd, rfl⟩⟩))
                          go_ret
                          exact ⟨by first | rfl | (simp [errW_none, errW_some] <;> rfl) | (simp [*, errW_none, errW_some] <;> rfl), by repeat (first | (with_reducible first | exact HB.out | apply below_alloc | apply pw_below_drewN | apply below_drew1) | exact HB.out)⟩
                        · rw [if_neg c32] at H
                          exact absurd H (by simp)
                      · rw [if_neg c31] at H
                        exact absurd H (by simp)
                    · rw [if_neg c30] at H
                      exact absurd H (by simp)
                  · rw [if_neg c27] at H
                    exact absurd H (by simp)
                · exact absurd rfl c24
  · replace c6 := Bool.eq_false_iff.mpr c6
    subst c6
    have H1 : (none) = some r := by rw [if_neg (show ¬ (false = true) by decide)] at H; exact H
    clear H
    have H := H1
    clear H1
    exact absurd H (by simp)

end Go.Proofs.Ytifcnblgpnfehaa.X
