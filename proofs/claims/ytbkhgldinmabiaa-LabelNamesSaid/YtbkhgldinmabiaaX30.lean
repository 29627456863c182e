-- Laid by xprint.py, a program of this session's, out of the translation.
import Derived.Test.YtbkhgldinmabiaaX0
import Derived.Test.YtbkhgldinmabiaaX3
import Derived.Test.YtbkhgldinmabiaaX14
namespace Go.Proofs.Ytbkhgldinmabiaa.X
open Go.RowKit Go.Proofs.YtbkhgldinmabiaaW.PrintWords Go.Proofs.YtbkhgldinmabiaaW.PrintLast Go.Proofs.YtbkhgldinmabiaaW.PrintMore
attribute [local go_sem] max2_int min2_int max_two min_two max_three min_three max_four min_four x_isSome x_str_gtr x_str_leq x_str_geq   -- for this text's walks alone
set_option linter.unusedVariables false
set_option linter.unusedSimpArgs false

/-! ### archivistlaw06_LabelNames: function 8 -/
mutual
def archivistlaw06_LabelNames.j1 : Nat → ByteArray → Int → Bool → Option (Bool)
  | 0, _, _, _ => none
  | k + 1, x0, x3, x9 => if (x0.size : Int) ≥ 1 then (if (x0.size : Int) ≤ 32 then (if 0 < (x0.size : Int) then (if (bt x0 0) < 48 then (archivistlaw06_LabelNames.j2 k x0 x3 x9 true) else (archivistlaw06_LabelNames.j2 k x0 x3 x9 (decide ((bt x0 0) > 57)))) else (none)) else (archivistlaw06_LabelNames.j2 k x0 x3 x9 false)) else (archivistlaw06_LabelNames.j2 k x0 x3 x9 false)
def archivistlaw06_LabelNames.j2 : Nat → ByteArray → Int → Bool → Bool → Option (Bool)
  | 0, _, _, _, _ => none
  | k + 1, x0, x3, x9, x11 => archivistlaw06_LabelNames.l1 k x0 x3 x9 x11 0
def archivistlaw06_LabelNames.l1 : Nat → ByteArray → Int → Bool → Bool → Int → Option (Bool)
  | 0, _, _, _, _, _ => none
  | k + 1, x0, x3, x9, x11, x12 => if x12 < (x0.size : Int) then (if 0 ≤ x12 then (if x11 = true then (if (bt x0 x12) ≥ 97 then (if (bt x0 x12) ≤ 122 then (archivistlaw06_LabelNames.l1 k x0 x3 x9 true (wrap64 (x12 + 1))) else (if (bt x0 x12) ≥ 65 then (if (bt x0 x12) ≤ 90 then (archivistlaw06_LabelNames.l1 k x0 x3 x9 true (wrap64 (x12 + 1))) else (if (bt x0 x12) ≥ 48 then (if (bt x0 x12) ≤ 57 then (archivistlaw06_LabelNames.l1 k x0 x3 x9 true (wrap64 (x12 + 1))) else (archivistlaw06_LabelNames.l1 k x0 x3 x9 ((bt x0 x12) == 95) (wrap64 (x12 + 1)))) else (archivistlaw06_LabelNames.l1 k x0 x3 x9 ((bt x0 x12) == 95) (wrap64 (x12 + 1))))) else (if (bt x0 x12) ≥ 48 then (if (bt x0 x12) ≤ 57 then (archivistlaw06_LabelNames.l1 k x0 x3 x9 true (wrap64 (x12 + 1))) else (archivistlaw06_LabelNames.l1 k x0 x3 x9 ((bt x0 x12) == 95) (wrap64 (x12 + 1)))) else (archivistlaw06_LabelNames.l1 k x0 x3 x9 ((bt x0 x12) == 95) (wrap64 (x12 + 1)))))) else (if (bt x0 x12) ≥ 65 then (if (bt x0 x12) ≤ 90 then (archivistlaw06_LabelNames.l1 k x0 x3 x9 true (wrap64 (x12 + 1))) else (if (bt x0 x12) ≥ 48 then (if (bt x0 x12) ≤ 57 then (archivistlaw06_LabelNames.l1 k x0 x3 x9 true (wrap64 (x12 + 1))) else (archivistlaw06_LabelNames.l1 k x0 x3 x9 ((bt x0 x12) == 95) (wrap64 (x12 + 1)))) else (archivistlaw06_LabelNames.l1 k x0 x3 x9 ((bt x0 x12) == 95) (wrap64 (x12 + 1))))) else (if (bt x0 x12) ≥ 48 then (if (bt x0 x12) ≤ 57 then (archivistlaw06_LabelNames.l1 k x0 x3 x9 true (wrap64 (x12 + 1))) else (archivistlaw06_LabelNames.l1 k x0 x3 x9 ((bt x0 x12) == 95) (wrap64 (x12 + 1)))) else (archivistlaw06_LabelNames.l1 k x0 x3 x9 ((bt x0 x12) == 95) (wrap64 (x12 + 1)))))) else (archivistlaw06_LabelNames.l1 k x0 x3 x9 false (wrap64 (x12 + 1)))) else (none)) else (if x3 ≥ 97 then (if x3 ≤ 122 then (archivistlaw06_LabelNames.j4 k x0 x3 x9 x11 true) else (if x3 ≥ 65 then (if x3 ≤ 90 then (archivistlaw06_LabelNames.j4 k x0 x3 x9 x11 true) else (archivistlaw06_LabelNames.j4 k x0 x3 x9 x11 (x3 == 95))) else (archivistlaw06_LabelNames.j4 k x0 x3 x9 x11 (x3 == 95)))) else (if x3 ≥ 65 then (if x3 ≤ 90 then (archivistlaw06_LabelNames.j4 k x0 x3 x9 x11 true) else (archivistlaw06_LabelNames.j4 k x0 x3 x9 x11 (x3 == 95))) else (archivistlaw06_LabelNames.j4 k x0 x3 x9 x11 (x3 == 95))))
def archivistlaw06_LabelNames.j4 : Nat → ByteArray → Int → Bool → Bool → Bool → Option (Bool)
  | 0, _, _, _, _, _ => none
  | k + 1, x0, x3, x9, x11, x14 => if x9 = true then ((label_Name.f k x0).bind fun t616 => (if (t616 == x11) = true then ((label_Name.f k (strOfNums (([x3] : List Int)))).bind fun t620 => (if (t620 == x14) = true then ((label_Name.f k (strOfNums (([120, x3] : List Int)))).bind fun t624 => (if x14 = true then (some (t624 == true)) else (if x3 ≥ 48 then (some (t624 == (decide (x3 ≤ 57)))) else (some (t624 == false))))) else (none))) else (none))) else (none)
def archivistlaw06_LabelNames.l0 : Nat → ByteArray → List Int → Int → Bool → Int → Option (Bool)
  | 0, _, _, _, _, _ => none
  | k + 1, x0, x2, x3, x9, x10 => if x10 < (x2.length : Int) then (if x10 < 40 then (if 0 ≤ x10 then (if 0 ≤ (Int.tmod (rd x2 x10) 10) then (if (Int.tmod (rd x2 x10) 10) < 10 then ((some (([bt (⟨#[97, 98, 99, 88, 89, 90, 48, 49, 57, 95]⟩ : ByteArray) (Int.tmod (rd x2 x10) 10)] : List Int) : List Int)).bind fun y613 => (if x0.size + (strOfNums y613).size ≤ 9223372036854775807 then (archivistlaw06_LabelNames.l0 k (x0 ++ (strOfNums y613)) x2 x3 x9 (wrap64 (x10 + 1))) else (none))) else (none)) else (none)) else (none)) else (archivistlaw06_LabelNames.j1 k x0 x3 x9)) else (archivistlaw06_LabelNames.j1 k x0 x3 x9)
end
def archivistlaw06_LabelNames.f (k : Nat) (a0 : ByteArray) (a1 : Bool) (l2 : List Int) (a3 : Int) : Option (Bool) := (archivistlaw06_examples.f k).bind fun t611 => (if t611 = true then (if a1 = true then (archivistlaw06_LabelNames.l0 k (⟨#[110]⟩ : ByteArray) l2 a3 t611 0) else (archivistlaw06_LabelNames.j1 k a0 a3 t611)) else (none))
theorem archivistlaw06_LabelNames.mono_l : ∀ k, (∀ y0 y1 y2, LeO (archivistlaw06_LabelNames.j1 k y0 y1 y2) (archivistlaw06_LabelNames.j1 (k + 1) y0 y1 y2)) ∧ (∀ y0 y1 y2 y3, LeO (archivistlaw06_LabelNames.j2 k y0 y1 y2 y3) (archivistlaw06_LabelNames.j2 (k + 1) y0 y1 y2 y3)) ∧ (∀ y0 y1 y2 y3 y4, LeO (archivistlaw06_LabelNames.l1 k y0 y1 y2 y3 y4) (archivistlaw06_LabelNames.l1 (k + 1) y0 y1 y2 y3 y4)) ∧ (∀ y0 y1 y2 y3 y4, LeO (archivistlaw06_LabelNames.j4 k y0 y1 y2 y3 y4) (archivistlaw06_LabelNames.j4 (k + 1) y0 y1 y2 y3 y4)) ∧ (∀ y0 y1 y2 y3 y4, LeO (archivistlaw06_LabelNames.l0 k y0 y1 y2 y3 y4) (archivistlaw06_LabelNames.l0 (k + 1) y0 y1 y2 y3 y4))
  | 0 => ⟨fun _ _ _ r h => by simp [archivistlaw06_LabelNames.j1] at h, fun _ _ _ _ r h => by simp [archivistlaw06_LabelNames.j2] at h, fun _ _ _ _ _ r h => by simp [archivistlaw06_LabelNames.l1] at h, fun _ _ _ _ _ r h => by simp [archivistlaw06_LabelNames.j4] at h, fun _ _ _ _ _ r h => by simp [archivistlaw06_LabelNames.l0] at h⟩
  | k + 1 => by
    obtain ⟨ih0, ih1, ih2, ih3, ih4⟩ := archivistlaw06_LabelNames.mono_l k
    refine ⟨?_, ?_, ?_, ?_, ?_⟩
    · intro y0 y1 y2
      unfold archivistlaw06_LabelNames.j1
      repeat' first
      | (with_reducible exact ih0 _ _ _)
      | (with_reducible exact ih1 _ _ _ _)
      | (with_reducible exact ih2 _ _ _ _ _)
      | (with_reducible exact ih3 _ _ _ _ _)
      | (with_reducible exact ih4 _ _ _ _ _)
      | (with_reducible exact archivistlaw06_examples.mono _)
      | (with_reducible exact label_Name.mono _ _)
      | (with_reducible exact LeO.refl _)
      | (with_reducible exact LeO.none _)
      | (with_reducible refine LeO.ite ?_ ?_)
      | (with_reducible refine LeO.bind ?_ (fun _ => ?_))
      | exact ih0 _ _ _
      | exact ih1 _ _ _ _
      | exact ih2 _ _ _ _ _
      | exact ih3 _ _ _ _ _
      | exact ih4 _ _ _ _ _
      | exact archivistlaw06_examples.mono _
      | exact label_Name.mono _ _
      | exact LeO.none _
      | refine LeO.ite ?_ ?_
      | refine LeO.bind ?_ (fun _ => ?_)
    · intro y0 y1 y2 y3
      unfold archivistlaw06_LabelNames.j2
      repeat' first
      | (with_reducible exact ih0 _ _ _)
      | (with_reducible exact ih1 _ _ _ _)
      | (with_reducible exact ih2 _ _ _ _ _)
      | (with_reducible exact ih3 _ _ _ _ _)
      | (with_reducible exact ih4 _ _ _ _ _)
      | (with_reducible exact archivistlaw06_examples.mono _)
      | (with_reducible exact label_Name.mono _ _)
      | (with_reducible exact LeO.refl _)
      | (with_reducible exact LeO.none _)
      | (with_reducible refine LeO.ite ?_ ?_)
      | (with_reducible refine LeO.bind ?_ (fun _ => ?_))
      | exact ih0 _ _ _
      | exact ih1 _ _ _ _
      | exact ih2 _ _ _ _ _
      | exact ih3 _ _ _ _ _
      | exact ih4 _ _ _ _ _
      | exact archivistlaw06_examples.mono _
      | exact label_Name.mono _ _
      | exact LeO.none _
      | refine LeO.ite ?_ ?_
      | refine LeO.bind ?_ (fun _ => ?_)
    · intro y0 y1 y2 y3 y4
      unfold archivistlaw06_LabelNames.l1
      repeat' first
      | (with_reducible exact ih0 _ _ _)
      | (with_reducible exact ih1 _ _ _ _)
      | (with_reducible exact ih2 _ _ _ _ _)
      | (with_reducible exact ih3 _ _ _ _ _)
      | (with_reducible exact ih4 _ _ _ _ _)
      | (with_reducible exact archivistlaw06_examples.mono _)
      | (with_reducible exact label_Name.mono _ _)
      | (with_reducible exact LeO.refl _)
      | (with_reducible exact LeO.none _)
      | (with_reducible refine LeO.ite ?_ ?_)
      | (with_reducible refine LeO.bind ?_ (fun _ => ?_))
      | exact ih0 _ _ _
      | exact ih1 _ _ _ _
      | exact ih2 _ _ _ _ _
      | exact ih3 _ _ _ _ _
      | exact ih4 _ _ _ _ _
      | exact archivistlaw06_examples.mono _
      | exact label_Name.mono _ _
      | exact LeO.none _
      | refine LeO.ite ?_ ?_
      | refine LeO.bind ?_ (fun _ => ?_)
    · intro y0 y1 y2 y3 y4
      unfold archivistlaw06_LabelNames.j4
      repeat' first
      | (with_reducible exact ih0 _ _ _)
      | (with_reducible exact ih1 _ _ _ _)
      | (with_reducible exact ih2 _ _ _ _ _)
      | (with_reducible exact ih3 _ _ _ _ _)
      | (with_reducible exact ih4 _ _ _ _ _)
      | (with_reducible exact archivistlaw06_examples.mono _)
      | (with_reducible exact label_Name.mono _ _)
      | (with_reducible exact LeO.refl _)
      | (with_reducible exact LeO.none _)
      | (with_reducible refine LeO.ite ?_ ?_)
      | (with_reducible refine LeO.bind ?_ (fun _ => ?_))
      | exact ih0 _ _ _
      | exact ih1 _ _ _ _
      | exact ih2 _ _ _ _ _
      | exact ih3 _ _ _ _ _
      | exact ih4 _ _ _ _ _
      | exact archivistlaw06_examples.mono _
      | exact label_Name.mono _ _
      | exact LeO.none _
      | refine LeO.ite ?_ ?_
      | refine LeO.bind ?_ (fun _ => ?_)
    · intro y0 y1 y2 y3 y4
      unfold archivistlaw06_LabelNames.l0
      repeat' first
      | (with_reducible exact ih0 _ _ _)
      | (with_reducible exact ih1 _ _ _ _)
      | (with_reducible exact ih2 _ _ _ _ _)
      | (with_reducible exact ih3 _ _ _ _ _)
      | (with_reducible exact ih4 _ _ _ _ _)
      | (with_reducible exact archivistlaw06_examples.mono _)
      | (with_reducible exact label_Name.mono _ _)
      | (with_reducible exact LeO.refl _)
      | (with_reducible exact LeO.none _)
      | (with_reducible refine LeO.ite ?_ ?_)
      | (with_reducible refine LeO.bind ?_ (fun _ => ?_))
      | exact ih0 _ _ _
      | exact ih1 _ _ _ _
      | exact ih2 _ _ _ _ _
      | exact ih3 _ _ _ _ _
      | exact ih4 _ _ _ _ _
      | exact archivistlaw06_examples.mono _
      | exact label_Name.mono _ _
      | exact LeO.none _
      | refine LeO.ite ?_ ?_
      | refine LeO.bind ?_ (fun _ => ?_)
theorem archivistlaw06_LabelNames.mono : ∀ a0 a1 a2 a3 k, LeO (archivistlaw06_LabelNames.f k a0 a1 a2 a3) (archivistlaw06_LabelNames.f (k + 1) a0 a1 a2 a3) := by
  intro a0 a1 a2 a3 k
  obtain ⟨ih0, ih1, ih2, ih3, ih4⟩ := archivistlaw06_LabelNames.mono_l k
  unfold archivistlaw06_LabelNames.f
  repeat' first
      | (with_reducible exact ih0 _ _ _)
      | (with_reducible exact ih1 _ _ _ _)
      | (with_reducible exact ih2 _ _ _ _ _)
      | (with_reducible exact ih3 _ _ _ _ _)
      | (with_reducible exact ih4 _ _ _ _ _)
      | (with_reducible exact archivistlaw06_examples.mono _)
      | (with_reducible exact label_Name.mono _ _)
      | (with_reducible exact LeO.refl _)
      | (with_reducible exact LeO.none _)
      | (with_reducible refine LeO.ite ?_ ?_)
      | (with_reducible refine LeO.bind ?_ (fun _ => ?_))
      | exact ih0 _ _ _
      | exact ih1 _ _ _ _
      | exact ih2 _ _ _ _ _
      | exact ih3 _ _ _ _ _
      | exact ih4 _ _ _ _ _
      | exact archivistlaw06_examples.mono _
      | exact label_Name.mono _ _
      | exact LeO.none _
      | refine LeO.ite ?_ ?_
      | refine LeO.bind ?_ (fun _ => ?_)
set_option maxHeartbeats 8000000 in
set_option maxRecDepth 100000 in
theorem archivistlaw06_LabelNames.calls (k : Nat) (a0 : ByteArray) (a1 : Bool) (A2 : Option Addr) (c2 : Nat) (l2 : List Int) (a3 : Int) (r : Bool) (w : World) (hr2 : Kd.C (Kd.int .u8) w A2 l2.length l2) (hc2 : l2.length ≤ c2) (h : archivistlaw06_LabelNames.f k a0 a1 l2 a3 = some r) :
    Calls Try.prog 8 #[.string a0, .bool a1, .slice A2 l2.length c2, .int .u8 a3] w fun e w' => e = .returned (.bool r) ∧ Below w.heap.size w w' := by
  have HR2 := Aside0.mk hr2
  have HC2 := Aside0.mk hc2
  clear hr2 hc2
  have HB := Aside0.mk (Below.refl w.heap.size w)
  have H : ((archivistlaw06_examples.f k).bind fun t611 => (if t611 = true then (if a1 = true then (archivistlaw06_LabelNames.l0 k (⟨#[110]⟩ : ByteArray) l2 a3 t611 0) else (archivistlaw06_LabelNames.j1 k a0 a3 t611)) else (none))) = some r := h
  clear h
  replace H := Option.bind_eq_some_iff.mp H
  obtain ⟨t611, A50, H⟩ := H
  replace H : (if t611 = true then (if a1 = true then (archivistlaw06_LabelNames.l0 k (⟨#[110]⟩ : ByteArray) l2 a3 t611 0) else (archivistlaw06_LabelNames.j1 k a0 a3 t611)) else (none)) = some r := H
  have A5 := Aside0.mk A50
  clear A50
  by_cases c6 : t611 = true
  · subst c6
    have H1 : (if a1 = true then (archivistlaw06_LabelNames.l0 k (⟨#[110]⟩ : ByteArray) l2 a3 true 0) else (archivistlaw06_LabelNames.j1 k a0 a3 true)) = some r := by rw [if_pos rfl] at H; exact H
    clear H
    have H := H1
    clear H1
    have HC7 := Aside0.mk H
    clear H
    go_enter Try.func8, Try.ntmps8
    go_upto_if 18 with (first | ((with_reducible refine gate_callee (f := 15) rfl ?_); refine goesL_ (some 15) rfl rfl Try.func15 (by kernel_rfl) rfl #[] rfl (by (try simp only [List.map_toArray, List.map_cons, List.map_nil]); first | done | rfl | (simp only [List.length_drop, List.length_take]; rfl)) ?_; (with_reducible refine (archivistlaw06_examples.calls k  true _ A5.out).mono ?_); rintro e w8 ⟨rfl, hb⟩; refine ⟨_, rfl, ?_⟩; have n0_ := Aside0.mk (below_step (by repeat (first | (with_reducible first | exact HB.out | apply below_alloc | apply pw_below_drewN | apply below_drew1) | exact HB.out)) hb); clear HB; have HB := n0_; clear n0_; (try clear hb); (try clear hb2); (try clear hk); (try clear hi)))
    (try simp only [Act.put, List.setIfInBounds_toArray, List.set_cons_zero, List.set_cons_succ])
    go_cut [0] (fun v0 wc => ∃ (kq : Nat) (x0_6 : ByteArray), v0 = .string x0_6 ∧ Aside0 (archivistlaw06_LabelNames.j1 kq x0_6 a3 true = some r) ∧ Aside0 (kq ≤ k) ∧ Aside0 (Below w.heap.size w wc))
    case first =>
      have H := HC7.out
      clear HC7
      by_cases c9 : a1 = true
      · subst c9
        have H1 : (archivistlaw06_LabelNames.l0 k (⟨#[110]⟩ : ByteArray) l2 a3 true 0) = some r := by rw [if_pos rfl] at H; exact H
        clear H
        have H := H1
        clear H1
        have H' := Aside0.mk H
        clear H
        go_wp2
        go_loopg [0, 10] k (fun kq v0 v10 w' => ∃ (x0_1 : ByteArray) (x10_1 : Int), v0 = .string x0_1 ∧ v10 = .int .i64 x10_1 ∧ Aside0 (archivistlaw06_LabelNames.l0 kq x0_1 l2 a3 true x10_1 = some r) ∧ Aside0 (kq ≤ k) ∧ Aside0 (Below w.heap.size w w'))
        case atStart => exact ⟨((⟨#[110]⟩ : ByteArray)), (0), (by first | rfl | (simp; done) | (simp [*]; done)), (by first | rfl | (simp; done) | (simp [*]; done)), H', ⟨Nat.le_refl _⟩, ⟨by repeat (first | (with_reducible first | exact HB.out | apply below_alloc | apply pw_below_drewN | apply below_drew1) | exact HB.out)⟩⟩
        case round =>
          clear H'
          try clear c1
          try clear c2
          try clear p2
          try clear c6
          try clear c8
          try clear c9
          obtain ⟨x0_1, x10_1, rfl, rfl, HA, HK1, HB⟩ := hrel
          cases gk with
          | zero => exact absurd HA.out (by simp [archivistlaw06_LabelNames.l0])
          | succ k1 =>
            have H := HA.out
            clear HA
            simp only [archivistlaw06_LabelNames.l0] at H
            by_cases c10 : x10_1 < (l2.length : Int)
            · rw [if_pos c10] at H
              have c10b0 : decide (x10_1 < (l2.length : Int)) = true := decide_eq_true c10
              clear c10
              (first | rw [c10b0] | (simp only [i64_w, i32_w]; rw [c10b0]) | skip)
              by_cases c11 : x10_1 < 40
              · rw [if_pos c11] at H
                have c11b0 : decide (x10_1 < 40) = true := decide_eq_true c11
                clear c11
                by_cases c12 : 0 ≤ x10_1
                · rw [if_pos c12] at H
                  have c12b0 : decide (0 ≤ x10_1) = true := decide_eq_true c12
                  clear c12
                  obtain ⟨ji13, hji13⟩ : ∃ j_ : Int, (Int.tmod (rd l2 x10_1) 10) = j_ := ⟨_, rfl⟩
                  replace H : (if 0 ≤ (ji13) then (if (ji13) < 10 then ((some (([bt (⟨#[97, 98, 99, 88, 89, 90, 48, 49, 57, 95]⟩ : ByteArray) (ji13)] : List Int) : List Int)).bind fun y613 => (if x0_1.size + (strOfNums y613).size ≤ 9223372036854775807 then (archivistlaw06_LabelNames.l0 k1 (x0_1 ++ (strOfNums y613)) l2 a3 true (wrap64 (x10_1 + 1))) else (none))) else (none)) else (none)) = some r := by first | (rw [hji13] at H; exact H) | (simp only [hji13] at H ⊢; exact H)
                  by_cases c14 : 0 ≤ (ji13)
                  · rw [if_pos c14] at H
                    have c14b0 : decide (0 ≤ (ji13)) = true := decide_eq_true c14
                    clear c14
                    by_cases c15 : (ji13) < 10
                    · rw [if_pos c15] at H
                      have c15b0 : decide ((ji13) < 10) = true := decide_eq_true c15
                      clear c15
                      obtain ⟨y613, hy613⟩ : ∃ y_ : List Int, y_ = (([bt (⟨#[97, 98, 99, 88, 89, 90, 48, 49, 57, 95]⟩ : ByteArray) (ji13)] : List Int)) := ⟨_, rfl⟩
                      replace H : (if x0_1.size + (strOfNums y613).size ≤ 9223372036854775807 then (archivistlaw06_LabelNames.l0 k1 (x0_1 ++ (strOfNums y613)) l2 a3 true (wrap64 (x10_1 + 1))) else (none)) = some r := by first | (rw [hy613]; with_reducible exact H) | (have H2_ := (Option.bind_some _ _).symm.trans H; rw [hy613]; with_reducible exact H2_) | (have H2_ := (Option.bind_some _ _).symm.trans H; with_reducible exact H2_) | with_reducible exact H | (rw [hy613]; exact H) | exact H
                      have Ny613 := Aside0.mk hy613
                      clear hy613
                      by_cases c17 : x0_1.size + (strOfNums y613).size ≤ 9223372036854775807
                      · rw [if_pos c17] at H
                        have c17b0 := eq_true c17
                        have c17b1 : decide (x0_1.size + (strOfNums y613).size ≤ 9223372036854775807) = true := decide_eq_true c17
                        try have c17b2 : (9223372036854775807 < x0_1.size + (strOfNums y613).size) = False := eq_false (Nat.not_lt.2 c17)
                        have H' := Aside0.mk H
                        clear H
                        have p612 : 0 ≤ (x10_1 : Int) := of_decide_eq_true (by first | (with_reducible assumption) | assumption)
                        have q612 : x10_1 < (l2.length : Int) := of_decide_eq_true (by first | (with_reducible assumption) | assumption)
                        obtain ⟨ad612, e612, hx612_0⟩ := Kd.at_int HR2.out x10_1 p612 q612
                        cases e612
                        replace hx612_0 := (HB.out.cell (World.block_lt_of_cell? w _ hx612_0)).trans hx612_0
                        replace p612 := eq_true p612
                        replace q612 := eq_true q612
                        have p16 : 0 ≤ ((ji13) : Int) := of_decide_eq_true (by first | (with_reducible assumption) | assumption)
                        have q16 : (ji13) < (10 : Int) := of_decide_eq_true (by first | (with_reducible assumption) | assumption)
                        have hx16 := bt_at (⟨#[97, 98, 99, 88, 89, 90, 48, 49, 57, 95]⟩ : ByteArray) (ji13)
                        replace p16 := eq_true p16
                        replace q16 := eq_true q16
                        go_wp2_with (first | ((with_reducible refine gate_dst (N := 36) rfl ?_); (try (refine gate_guard (by rfl) ?_; dsimp only)); refine Kd.R_lit (Kd.int .u8) _ 5 ?hg (N := 36) ?hd (xs := ([bt (⟨#[97, 98, 99, 88, 89, 90, 48, 49, 57, 95]⟩ : ByteArray) (ji13)] : List Int)) (inner := [.int .u8 (bt (⟨#[97, 98, 99, 88, 89, 90, 48, 49, 57, 95]⟩ : ByteArray) (ji13))]) (ok := fun _ => True) (okp := fun _ => True) ?hr ?hp (fun _ hk => hk) trivial (Below.refl _ _) (Nat.le_refl _) (by simp) ?_; (case hd => rfl); (case hg => rfl); (case hr => first | (go_simp; done) | (go_simp; rfl)); (case hp => exact (Reps.one (show Kd.M (Kd.int .u8) _ _ _ (bt (⟨#[97, 98, 99, 88, 89, 90, 48, 49, 57, 95]⟩ : ByteArray) (ji13)) [.int .u8 (bt (⟨#[97, 98, 99, 88, 89, 90, 48, 49, 57, 95]⟩ : ByteArray) (ji13))] from rfl) (Reps.none _ _))); intro v614 w18 ho19 hb hg_ hnew_; clear hg_ hnew_; (first | rw [← Ny613.out] at ho19 | (simp only [Int.reduceToNat] at ho19; rw [← Ny613.out] at ho19)); have n0_ := Aside0.mk (Kd.R_lower ho19 (below_size (by repeat (first | (with_reducible first | exact HB.out | apply below_alloc | apply pw_below_drewN | apply below_drew1) | exact HB.out)))); have n1_ := Aside0.mk (below_step (by repeat (first | (with_reducible first | exact HB.out | apply below_alloc | apply pw_below_drewN | apply below_drew1) | exact HB.out)) hb); clear HB; have HO615 := n0_; have HB := n1_; clear n0_ n1_; clear hb ho19; have hcv20 := own_string (P := Try.prog) Try.underlying58 Try.underlying5 Try.underlying9 (Kd.own_of_R HO615.out)))
                        go_roundg k1
                        case measure => have := HK1.out; omega
                        case rel => exact ⟨(x0_1 ++ (strOfNums y613)), (wrap64 (x10_1 + 1)), (by first | rfl | (simp; done) | (simp [*]; done)), (by first | rfl | (simp; done) | (simp [*]; done)), H', ⟨by have := HK1.out; omega⟩, ⟨by repeat (first | (with_reducible first | exact HB.out | apply below_alloc | apply pw_below_drewN | apply below_drew1) | exact HB.out)⟩⟩
                      · rw [if_neg c17] at H
                        exact absurd H (by simp)
                    · rw [if_neg c15] at H
                      exact absurd H (by simp)
                  · rw [if_neg c14] at H
                    exact absurd H (by simp)
                · rw [if_neg c12] at H
                  exact absurd H (by simp)
              · rw [if_neg c11] at H
                have c11b0 : decide (x10_1 < 40) = false := decide_eq_false c11
                clear c11
                have H' := Aside0.mk H
                clear H
                go_wp2
                go_meet
                case rel => exact ⟨_, (x0_1), (by first | rfl | (simp; done) | (simp [*]; done)), H', ⟨by have := HK1.out; first | omega | exact Nat.le_refl _⟩, ⟨by repeat (first | (with_reducible first | exact HB.out | apply below_alloc | apply pw_below_drewN | apply below_drew1) | exact HB.out)⟩⟩
            · rw [if_neg c10] at H
              have c10b0 : decide (x10_1 < (l2.length : Int)) = false := decide_eq_false c10
              clear c10
              (first | rw [c10b0] | (simp only [i64_w, i32_w]; rw [c10b0]) | skip)
              have H' := Aside0.mk H
              clear H
              go_wp2
              go_meet
              case rel => exact ⟨_, (x0_1), (by first | rfl | (simp; done) | (simp [*]; done)), H', ⟨by have := HK1.out; first | omega | exact Nat.le_refl _⟩, ⟨by repeat (first | (with_reducible first | exact HB.out | apply below_alloc | apply pw_below_drewN | apply below_drew1) | exact HB.out)⟩⟩
      · replace c9 := Bool.eq_false_iff.mpr c9
        subst c9
        have H1 : (archivistlaw06_LabelNames.j1 k a0 a3 true) = some r := by rw [if_neg (show ¬ (false = true) by decide)] at H; exact H
        clear H
        have H := H1
        clear H1
        have H' := Aside0.mk H
        clear H
        go_wp2
        go_meet
        case rel => exact ⟨_, (a0), (by first | rfl | (simp; done) | (simp [*]; done)), H', ⟨by first | omega | exact Nat.le_refl _⟩, ⟨by repeat (first | (with_reducible first | exact HB.out | apply below_alloc | apply pw_below_drewN | apply below_drew1) | exact HB.out)⟩⟩
    case rest =>
      clear HC7
      try clear c1
      try clear p1
      try clear q1
      try clear hx1
      try clear c2
      try clear p2
      try clear hcv2
      try clear c6
      try clear p6
      try clear q6
      try clear hx6
      try clear c8
      try clear c9
      try clear c10
      try clear c10b0
      try clear c11
      try clear c11b0
      try clear c12
      try clear c12b0
      try clear c14
      try clear c14b0
      try clear c15
      try clear c15b0
      try clear p16
      try clear q16
      try clear hx16
      try clear c17
      try clear c17b0
      try clear c17b1
      try clear c17b2
      try clear hcv20
      try clear hx612_0
      try clear p16
      try clear p2
      try clear p612
      try clear q16
      try clear q612
      obtain ⟨kq, x0_6, rfl, HA, HJ6, HB⟩ := hcut
      cases kq with
      | zero => exact absurd HA.out (by simp [archivistlaw06_LabelNames.j1])
      | succ kj6 =>
        have H := HA.out
        clear HA
        simp only [archivistlaw06_LabelNames.j1] at H
        have HC21 := Aside0.mk H
        clear H
        go_upto_region 10 with (fail)
        go_cut [11] (fun v11 wc => ∃ (kq : Nat) (x11_20 : Bool), v11 = .bool x11_20 ∧ Aside0 (archivistlaw06_LabelNames.j2 kq x0_6 a3 true x11_20 = some r) ∧ Aside0 (kq ≤ kj6) ∧ Aside0 (Below w.heap.size w wc))
        case first =>
          have H := HC21.out
          clear HC21
          by_cases c22 : (x0_6.size : Int) ≥ 1
          · rw [if_pos c22] at H
            have c22b0 : decide (1 ≤ (x0_6.size : Int)) = true := decide_eq_true c22
            have c22b1 : decide (1 ≤ x0_6.size) = true := decide_eq_true (by omega)
            clear c22
            (first | rw [c22b0] | (simp only [i64_w, i32_w]; rw [c22b0]) | skip)
            by_cases c23 : (x0_6.size : Int) ≤ 32
            · rw [if_pos c23] at H
              have c23b0 : decide ((x0_6.size : Int) ≤ 32) = true := decide_eq_true c23
              have c23b1 : decide (x0_6.size ≤ 32) = true := decide_eq_true (by omega)
              clear c23
              by_cases c24 : 0 < (x0_6.size : Int)
              · rw [if_pos c24] at H
                have c24b0 : decide (0 < (x0_6.size : Int)) = true := decide_eq_true c24
                have c24b1 : decide (0 < x0_6.size) = true := decide_eq_true (by omega)
                clear c24
                by_cases c26 : (bt x0_6 0) < 48
                · rw [if_pos c26] at H
                  have c26b0 : decide ((bt x0_6 0) < 48) = true := decide_eq_true c26
                  clear c26
                  have H' := Aside0.mk H
                  clear H
                  have p25 : 0 ≤ (0 : Int) := (by omega)
                  have q25 : 0 < x0_6.size := (by have : (0 : Int) < (x0_6.size : Int) := of_decide_eq_true (by first | (with_reducible assumption) | assumption); omega)
                  have hx25 : ∀ h : 0 < x0_6.size, ((x0_6[0]'h).toNat : Int) = bt x0_6 0 := bt_at x0_6 0
                  clear p25
                  have qi25 : (0 < (x0_6.size : Int)) = True := eq_true (of_decide_eq_true (by first | (with_reducible assumption) | assumption))
                  replace q25 := eq_true q25
                  go_wp2
                  go_meet
                  case rel => exact ⟨_, (true), (by first | rfl | (simp; done) | (simp [*]; done)), H', ⟨by have := HJ6.out; first | omega | exact Nat.le_refl _⟩, ⟨by repeat (first | (with_reducible first | exact HB.out | apply below_alloc | apply pw_below_drewN | apply below_drew1) | exact HB.out)⟩⟩
                · rw [if_neg c26] at H
                  have c26b0 : decide ((bt x0_6 0) < 48) = false := decide_eq_false c26
                  clear c26
                  have H' := Aside0.mk H
                  clear H
                  have p25 : 0 ≤ (0 : Int) := (by omega)
                  have q25 : 0 < x0_6.size := (by have : (0 : Int) < (x0_6.size : Int) := of_decide_eq_true (by first | (with_reducible assumption) | assumption); omega)
                  have hx25 : ∀ h : 0 < x0_6.size, ((x0_6[0]'h).toNat : Int) = bt x0_6 0 := bt_at x0_6 0
                  clear p25
                  have qi25 : (0 < (x0_6.size : Int)) = True := eq_true (of_decide_eq_true (by first | (with_reducible assumption) | assumption))
                  replace q25 := eq_true q25
                  have p27 : 0 ≤ (0 : Int) := (by omega)
                  have q27 : 0 < x0_6.size := (by have : (0 : Int) < (x0_6.size : Int) := of_decide_eq_true (by first | (with_reducible assumption) | assumption); omega)
                  have hx27 : ∀ h : 0 < x0_6.size, ((x0_6[0]'h).toNat : Int) = bt x0_6 0 := bt_at x0_6 0
                  clear p27
                  have qi27 : (0 < (x0_6.size : Int)) = True := eq_true (of_decide_eq_true (by first | (with_reducible assumption) | assumption))
                  replace q27 := eq_true q27
                  go_wp2
                  go_meet
                  case rel => exact ⟨_, (decide ((bt x0_6 0) > 57)), (by first | rfl | (simp; done) | (simp [*]; done)), H', ⟨by have := HJ6.out; first | omega | exact Nat.le_refl _⟩, ⟨by repeat (first | (with_reducible first | exact HB.out | apply below_alloc | apply pw_below_drewN | apply below_drew1) | exact HB.out)⟩⟩
              · rw [if_neg c24] at H
                exact absurd H (by simp)
            · rw [if_neg c23] at H
              have c23b0 : decide ((x0_6.size : Int) ≤ 32) = false := decide_eq_false c23
              have c23b1 : decide (x0_6.size ≤ 32) = false := decide_eq_false (by omega)
              clear c23
              have H' := Aside0.mk H
              clear H
              go_wp2
              go_meet
              case rel => exact ⟨_, (false), (by first | rfl | (simp; done) | (simp [*]; done)), H', ⟨by have := HJ6.out; first | omega | exact Nat.le_refl _⟩, ⟨by repeat (first | (with_reducible first | exact HB.out | apply below_alloc | apply pw_below_drewN | apply below_drew1) | exact HB.out)⟩⟩
          · rw [if_neg c22] at H
            have c22b0 : decide (1 ≤ (x0_6.size : Int)) = false := decide_eq_false c22
            have c22b1 : decide (1 ≤ x0_6.size) = false := decide_eq_false (by omega)
            clear c22
            (first | rw [c22b0] | (simp only [i64_w, i32_w]; rw [c22b0]) | skip)
            have H' := Aside0.mk H
            clear H
            go_wp2
            go_meet
            case rel => exact ⟨_, (false), (by first | rfl | (simp; done) | (simp [*]; done)), H', ⟨by have := HJ6.out; first | omega | exact Nat.le_refl _⟩, ⟨by repeat (first | (with_reducible first | exact HB.out | apply below_alloc | apply pw_below_drewN | apply below_drew1) | exact HB.out)⟩⟩
        case rest =>
          clear HC21
          try clear c1
          try clear p1
          try clear q1
          try clear hx1
          try clear c2
          try clear p2
          try clear q2
          try clear hx2
          try clear hcv2
          try clear qi2
          try clear c6
          try clear p6
          try clear q6
          try clear hx6
          try clear c8
          try clear c9
          try clear c10
          try clear c10b0
          try clear c11
          try clear c11b0
          try clear c12
          try clear c12b0
          try clear c14
          try clear c14b0
          try clear c15
          try clear c15b0
          try clear p16
          try clear q16
          try clear hx16
          try clear c17
          try clear c17b0
          try clear c17b1
          try clear c17b2
          try clear hcv20
          try clear c22
          try clear c22b0
          try clear c22b1
          try clear c23
          try clear c23b0
          try clear c23b1
          try clear c24
          try clear c24b0
          try clear c24b1
          try clear p25
          try clear q25
          try clear hx25
          try clear qi25
          try clear c26
          try clear c26b0
          try clear p27
          try clear q27
          try clear hx27
          try clear qi27
          try clear hx612_0
          try clear p1
          try clear p16
          try clear p2
          try clear p25
          try clear p27
          try clear p6
          try clear p612
          try clear q1
          try clear q16
          try clear q25
          try clear q27
          try clear q6
          try clear q612
          obtain ⟨kq, x11_20, rfl, HA, HJ20, HB⟩ := hcut
          cases kq with
          | zero => exact absurd HA.out (by simp [archivistlaw06_LabelNames.j2])
          | succ kj20 =>
            have H := HA.out
            clear HA
            simp only [archivistlaw06_LabelNames.j2] at H
            have H' := Aside0.mk H
            clear H
            go_wp2
            go_loopg [11, 12] kj20 (fun kq v11 v12 w' => ∃ (x11_3 : Bool) (x12_3 : Int), v11 = .bool x11_3 ∧ v12 = .int .i64 x12_3 ∧ Aside0 (archivistlaw06_LabelNames.l1 kq x0_6 a3 true x11_3 x12_3 = some r) ∧ Aside0 (kq ≤ kj20) ∧ Aside0 (Below w.heap.size w w'))
            case atStart => exact ⟨(x11_20), (0), (by first | rfl | (simp; done) | (simp [*]; done)), (by first | rfl | (simp; done) | (simp [*]; done)), H', ⟨Nat.le_refl _⟩, ⟨by repeat (first | (with_reducible first | exact HB.out | apply below_alloc | apply pw_below_drewN | apply below_drew1) | exact HB.out)⟩⟩
            case round =>
              clear H'
              try clear c1
              try clear p1
              try clear q1
              try clear hx1
              try clear c2
              try clear p2
              try clear q2
              try clear hx2
              try clear hcv2
              try clear qi2
              try clear c6
              try clear p6
              try clear q6
              try clear hx6
              try clear c8
              try clear c9
              try clear c10
              try clear c10b0
              try clear c11
              try clear c11b0
              try clear c12
              try clear c12b0
              try clear c14
              try clear c14b0
              try clear c15
              try clear c15b0
              try clear p16
              try clear q16
              try clear hx16
              try clear c17
              try clear c17b0
              try clear c17b1
              try clear c17b2
              try clear hcv20
              try clear c22
              try clear c22b0
              try clear c22b1
              try clear c23
              try clear c23b0
              try clear c23b1
              try clear c24
              try clear c24b0
              try clear c24b1
              try clear p25
              try clear q25
              try clear hx25
              try clear qi25
              try clear c26
              try clear c26b0
              try clear p27
              try clear q27
              try clear hx27
              try clear qi27
              try clear hx612_0
              try clear p1
              try clear p16
              try clear p2
              try clear p25
              try clear p27
              try clear p6
              try clear p612
              try clear q1
              try clear q16
              try clear q2
              try clear q25
              try clear q27
              try clear q6
              try clear q612
              obtain ⟨x11_3, x12_3, rfl, rfl, HA, HK3, HB⟩ := hrel
              cases gk with
              | zero => exact absurd HA.out (by simp [archivistlaw06_LabelNames.l1])
              | succ k3 =>
                have H := HA.out
                clear HA
                simp only [archivistlaw06_LabelNames.l1] at H
                by_cases c28 : x12_3 < (x0_6.size : Int)
                · rw [if_pos c28] at H
                  have c28b0 : decide (x12_3 < (x0_6.size : Int)) = true := decide_eq_true c28
                  clear c28
                  by_cases c29 : 0 ≤ x12_3
                  · rw [if_pos c29] at H
                    have c29b0 : decide (0 ≤ x12_3) = true := decide_eq_true c29
                    clear c29
                    by_cases c31 : x11_3 = true
                    · subst c31
                      have H1 : (if (bt x0_6 x12_3) ≥ 97 then (if (bt x0_6 x12_3) ≤ 122 then (archivistlaw06_LabelNames.l1 k3 x0_6 a3 true true (wrap64 (x12_3 + 1))) else (if (bt x0_6 x12_3) ≥ 65 then (if (bt x0_6 x12_3) ≤ 90 then (archivistlaw06_LabelNames.l1 k3 x0_6 a3 true true (wrap64 (x12_3 + 1))) else (if (bt x0_6 x12_3) ≥ 48 then (if (bt x0_6 x12_3) ≤ 57 then (archivistlaw06_LabelNames.l1 k3 x0_6 a3 true true (wrap64 (x12_3 + 1))) else (archivistlaw06_LabelNames.l1 k3 x0_6 a3 true ((bt x0_6 x12_3) == 95) (wrap64 (x12_3 + 1)))) else (archivistlaw06_LabelNames.l1 k3 x0_6 a3 true ((bt x0_6 x12_3) == 95) (wrap64 (x12_3 + 1))))) else (if (bt x0_6 x12_3) ≥ 48 then (if (bt x0_6 x12_3) ≤ 57 then (archivistlaw06_LabelNames.l1 k3 x0_6 a3 true true (wrap64 (x12_3 + 1))) else (archivistlaw06_LabelNames.l1 k3 x0_6 a3 true ((bt x0_6 x12_3) == 95) (wrap64 (x12_3 + 1)))) else (archivistlaw06_LabelNames.l1 k3 x0_6 a3 true ((bt x0_6 x12_3) == 95) (wrap64 (x12_3 + 1)))))) else (if (bt x0_6 x12_3) ≥ 65 then (if (bt x0_6 x12_3) ≤ 90 then (archivistlaw06_LabelNames.l1 k3 x0_6 a3 true true (wrap64 (x12_3 + 1))) else (if (bt x0_6 x12_3) ≥ 48 then (if (bt x0_6 x12_3) ≤ 57 then (archivistlaw06_LabelNames.l1 k3 x0_6 a3 true true (wrap64 (x12_3 + 1))) else (archivistlaw06_LabelNames.l1 k3 x0_6 a3 true ((bt x0_6 x12_3) == 95) (wrap64 (x12_3 + 1)))) else (archivistlaw06_LabelNames.l1 k3 x0_6 a3 true ((bt x0_6 x12_3) == 95) (wrap64 (x12_3 + 1))))) else (if (bt x0_6 x12_3) ≥ 48 then (if (bt x0_6 x12_3) ≤ 57 then (archivistlaw06_LabelNames.l1 k3 x0_6 a3 true true (wrap64 (x12_3 + 1))) else (archivistlaw06_LabelNames.l1 k3 x0_6 a3 true ((bt x0_6 x12_3) == 95) (wrap64 (x12_3 + 1)))) else (archivistlaw06_LabelNames.l1 k3 x0_6 a3 true ((bt x0_6 x12_3) == 95) (wrap64 (x12_3 + 1)))))) = some r := by rw [if_pos rfl] at H; exact H
                      clear H
                      have H := H1
                      clear H1
                      by_cases c32 : (bt x0_6 x12_3) ≥ 97
                      · rw [if_pos c32] at H
                        have c32b0 : decide (97 ≤ (bt x0_6 x12_3)) = true := decide_eq_true c32
                        clear c32
                        by_cases c33 : (bt x0_6 x12_3) ≤ 122
                        · rw [if_pos c33] at H
                          have c33b0 : decide ((bt x0_6 x12_3) ≤ 122) = true := decide_eq_true c33
                          clear c33
                          have H' := Aside0.mk H
                          clear H
                          have p30 : 0 ≤ (x12_3 : Int) := of_decide_eq_true (by first | (with_reducible assumption) | assumption)
                          have q30 : x12_3 < (x0_6.size : Int) := of_decide_eq_true (by first | (with_reducible assumption) | assumption)
                          have hx30 := bt_at x0_6 x12_3
                          replace p30 := eq_true p30
                          replace q30 := eq_true q30
                          go_wp2
                          go_roundg k3
                          case measure => have := HJ6.out; have := HJ20.out; have := HK3.out; omega
                          case rel => exact ⟨(true), (wrap64 (x12_3 + 1)), (by first | rfl | (simp; done) | (simp [*]; done)), (by first | rfl | (simp; done) | (simp [*]; done)), H', ⟨by have := HJ6.out; have := HJ20.out; have := HK3.out; omega⟩, ⟨by repeat (first | (with_reducible first | exact HB.out | apply below_alloc | apply pw_below_drewN | apply below_drew1) | exact HB.out)⟩⟩
                        · rw [if_neg c33] at H
                          have c33b0 : decide ((bt x0_6 x12_3) ≤ 122) = false := decide_eq_false c33
                          clear c33
                          by_cases c34 : (bt x0_6 x12_3) ≥ 65
                          · rw [if_pos c34] at H
                            have c34b0 : decide (65 ≤ (bt x0_6 x12_3)) = true := decide_eq_true c34
                            clear c34
                            by_cases c35 : (bt x0_6 x12_3) ≤ 90
                            · rw [if_pos c35] at H
                              have c35b0 : decide ((bt x0_6 x12_3) ≤ 90) = true := decide_eq_true c35
                              clear c35
                              have H' := Aside0.mk H
                              clear H
                              have p30 : 0 ≤ (x12_3 : Int) := of_decide_eq_true (by first | (with_reducible assumption) | assumption)
                              have q30 : x12_3 < (x0_6.size : Int) := of_decide_eq_true (by first | (with_reducible assumption) | assumption)
                              have hx30 := bt_at x0_6 x12_3
                              replace p30 := eq_true p30
                              replace q30 := eq_true q30
                              go_wp2
                              go_roundg k3
                              case measure => have := HJ6.out; have := HJ20.out; have := HK3.out; omega
                              case rel => exact ⟨(true), (wrap64 (x12_3 + 1)), (by first | rfl | (simp; done) | (simp [*]; done)), (by first | rfl | (simp; done) | (simp [*]; done)), H', ⟨by have := HJ6.out; have := HJ20.out; have := HK3.out; omega⟩, ⟨by repeat (first | (with_reducible first | exact HB.out | apply below_alloc | apply pw_below_drewN | apply below_drew1) | exact HB.out)⟩⟩
                            · rw [if_neg c35] at H
                              have c35b0 : decide ((bt x0_6 x12_3) ≤ 90) = false := decide_eq_false c35
                              clear c35
                              by_cases c36 : (bt x0_6 x12_3) ≥ 48
                              · rw [if_pos c36] at H
                                have c36b0 : decide (48 ≤ (bt x0_6 x12_3)) = true := decide_eq_true c36
                                clear c36
                                by_cases c37 : (bt x0_6 x12_3) ≤ 57
                                · rw [if_pos c37] at H
                                  have c37b0 : decide ((bt x0_6 x12_3) ≤ 57) = true := decide_eq_true c37
                                  clear c37
                                  have H' := Aside0.mk H
                                  clear H
                                  have p30 : 0 ≤ (x12_3 : Int) := of_decide_eq_true (by first | (with_reducible assumption) | assumption)
                                  have q30 : x12_3 < (x0_6.size : Int) := of_decide_eq_true (by first | (with_reducible assumption) | assumption)
                                  have hx30 := bt_at x0_6 x12_3
                                  replace p30 := eq_true p30
                                  replace q30 := eq_true q30
                                  go_wp2
                                  go_roundg k3
                                  case measure => have := HJ6.out; have := HJ20.out; have := HK3.out; omega
                                  case rel => exact ⟨(true), (wrap64 (x12_3 + 1)), (by first | rfl | (simp; done) | (simp [*]; done)), (by first | rfl | (simp; done) | (simp [*]; done)), H', ⟨by have := HJ6.out; have := HJ20.out; have := HK3.out; omega⟩, ⟨by repeat (first | (with_reducible first | exact HB.out | apply below_alloc | apply pw_below_drewN | apply below_drew1) | exact HB.out)⟩⟩
                                · rw [if_neg c37] at H
                                  have c37b0 : decide ((bt x0_6 x12_3) ≤ 57) = false := decide_eq_false c37
                                  clear c37
                                  have H' := Aside0.mk H
                                  clear H
                                  have p30 : 0 ≤ (x12_3 : Int) := of_decide_eq_true (by first | (with_reducible assumption) | assumption)
                                  have q30 : x12_3 < (x0_6.size : Int) := of_decide_eq_true (by first | (with_reducible assumption) | assumption)
                                  have hx30 := bt_at x0_6 x12_3
                                  replace p30 := eq_true p30
                                  replace q30 := eq_true q30
                                  go_wp2
                                  go_roundg k3
                                  case measure => have := HJ6.out; have := HJ20.out; have := HK3.out; omega
                                  case rel => exact ⟨(((bt x0_6 x12_3) == 95)), (wrap64 (x12_3 + 1)), (by first | rfl | (simp; done) | (simp [*]; done)), (by first | rfl | (simp; done) | (simp [*]; done)), H', ⟨by have := HJ6.out; have := HJ20.out; have := HK3.out; omega⟩, ⟨by repeat (first | (with_reducible first | exact HB.out | apply below_alloc | apply pw_below_drewN | apply below_drew1) | exact HB.out)⟩⟩
                              · rw [if_neg c36] at H
                                have c36b0 : decide (48 ≤ (bt x0_6 x12_3)) = false := decide_eq_false c36
                                clear c36
                                have H' := Aside0.mk H
                                clear H
                                have p30 : 0 ≤ (x12_3 : Int) := of_decide_eq_true (by first | (with_reducible assumption) | assumption)
                                have q30 : x12_3 < (x0_6.size : Int) := of_decide_eq_true (by first | (with_reducible assumption) | assumption)
                                have hx30 := bt_at x0_6 x12_3
                                replace p30 := eq_true p30
                                replace q30 := eq_true q30
                                go_wp2
                                go_roundg k3
                                case measure => have := HJ6.out; have := HJ20.out; have := HK3.out; omega
                                case rel => exact ⟨(((bt x0_6 x12_3) == 95)), (wrap64 (x12_3 + 1)), (by first | rfl | (simp; done) | (simp [*]; done)), (by first | rfl | (simp; done) | (simp [*]; done)), H', ⟨by have := HJ6.out; have := HJ20.out; have := HK3.out; omega⟩, ⟨by repeat (first | (with_reducible first | exact HB.out | apply below_alloc | apply pw_below_drewN | apply below_drew1) | exact HB.out)⟩⟩
                          · rw [if_neg c34] at H
                            have c34b0 : decide (65 ≤ (bt x0_6 x12_3)) = false := decide_eq_false c34
                            clear c34
                            by_cases c38 : (bt x0_6 x12_3) ≥ 48
                            · rw [if_pos c38] at H
                              have c38b0 : decide (48 ≤ (bt x0_6 x12_3)) = true := decide_eq_true c38
                              clear c38
                              by_cases c39 : (bt x0_6 x12_3) ≤ 57
                              · rw [if_pos c39] at H
                                have c39b0 : decide ((bt x0_6 x12_3) ≤ 57) = true := decide_eq_true c39
                                clear c39
                                have H' := Aside0.mk H
                                clear H
                                have p30 : 0 ≤ (x12_3 : Int) := of_decide_eq_true (by first | (with_reducible assumption) | assumption)
                                have q30 : x12_3 < (x0_6.size : Int) := of_decide_eq_true (by first | (with_reducible assumption) | assumption)
                                have hx30 := bt_at x0_6 x12_3
                                replace p30 := eq_true p30
                                replace q30 := eq_true q30
                                go_wp2
                                go_roundg k3
                                case measure => have := HJ6.out; have := HJ20.out; have := HK3.out; omega
                                case rel => exact ⟨(true), (wrap64 (x12_3 + 1)), (by first | rfl | (simp; done) | (simp [*]; done)), (by first | rfl | (simp; done) | (simp [*]; done)), H', ⟨by have := HJ6.out; have := HJ20.out; have := HK3.out; omega⟩, ⟨by repeat (first | (with_reducible first | exact HB.out | apply below_alloc | apply pw_below_drewN | apply below_drew1) | exact HB.out)⟩⟩
                              · rw [if_neg c39] at H
                                have c39b0 : decide ((bt x0_6 x12_3) ≤ 57) = false := decide_eq_false c39
                                clear c39
                                have H' := Aside0.mk H
                                clear H
                                have p30 : 0 ≤ (x12_3 : Int) := of_decide_eq_true (by first | (with_reducible assumption) | assumption)
                                have q30 : x12_3 < (x0_6.size : Int) := of_decide_eq_true (by first | (with_reducible assumption) | assumption)
                                have hx30 := bt_at x0_6 x12_3
                                replace p30 := eq_true p30
                                replace q30 := eq_true q30
                                go_wp2
                                go_roundg k3
                                case measure => have := HJ6.out; have := HJ20.out; have := HK3.out; omega
                                case rel => exact ⟨(((bt x0_6 x12_3) == 95)), (wrap64 (x12_3 + 1)), (by first | rfl | (simp; done) | (simp [*]; done)), (by first | rfl | (simp; done) | (simp [*]; done)), H', ⟨by have := HJ6.out; have := HJ20.out; have := HK3.out; omega⟩, ⟨by repeat (first | (with_reducible first | exact HB.out | apply below_alloc | apply pw_below_drewN | apply below_drew1) | exact HB.out)⟩⟩
                            · rw [if_neg c38] at H
                              have c38b0 : decide (48 ≤ (bt x0_6 x12_3)) = false := decide_eq_false c38
                              clear c38
                              have H' := Aside0.mk H
                              clear H
                              have p30 : 0 ≤ (x12_3 : Int) := of_decide_eq_true (by first | (with_reducible assumption) | assumption)
                              have q30 : x12_3 < (x0_6.size : Int) := of_decide_eq_true (by first | (with_reducible assumption) | assumption)
                              have hx30 := bt_at x0_6 x12_3
                              replace p30 := eq_true p30
                              replace q30 := eq_true q30
                              go_wp2
                              go_roundg k3
                              case measure => have := HJ6.out; have := HJ20.out; have := HK3.out; omega
                              case rel => exact ⟨(((bt x0_6 x12_3) == 95)), (wrap64 (x12_3 + 1)), (by first | rfl | (simp; done) | (simp [*]; done)), (by first | rfl | (simp; done) | (simp [*]; done)), H', ⟨by have := HJ6.out; have := HJ20.out; have := HK3.out; omega⟩, ⟨by repeat (first | (with_reducible first | exact HB.out | apply below_alloc | apply pw_below_drewN | apply below_drew1) | exact HB.out)⟩⟩
                      · rw [if_neg c32] at H
                        have c32b0 : decide (97 ≤ (bt x0_6 x12_3)) = false := decide_eq_false c32
                        clear c32
                        by_cases c40 : (bt x0_6 x12_3) ≥ 65
                        · rw [if_pos c40] at H
                          have c40b0 : decide (65 ≤ (bt x0_6 x12_3)) = true := decide_eq_true c40
                          clear c40
                          by_cases c41 : (bt x0_6 x12_3) ≤ 90
                          · rw [if_pos c41] at H
                            have c41b0 : decide ((bt x0_6 x12_3) ≤ 90) = true := decide_eq_true c41
                            clear c41
                            have H' := Aside0.mk H
                            clear H
                            have p30 : 0 ≤ (x12_3 : Int) := of_decide_eq_true (by first | (with_reducible assumption) | assumption)
                            have q30 : x12_3 < (x0_6.size : Int) := of_decide_eq_true (by first | (with_reducible assumption) | assumption)
                            have hx30 := bt_at x0_6 x12_3
                            replace p30 := eq_true p30
                            replace q30 := eq_true q30
                            go_wp2
                            go_roundg k3
                            case measure => have := HJ6.out; have := HJ20.out; have := HK3.out; omega
                            case rel => exact ⟨(true), (wrap64 (x12_3 + 1)), (by first | rfl | (simp; done) | (simp [*]; done)), (by first | rfl | (simp; done) | (simp [*]; done)), H', ⟨by have := HJ6.out; have := HJ20.out; have := HK3.out; omega⟩, ⟨by repeat (first | (with_reducible first | exact HB.out | apply below_alloc | apply pw_below_drewN | apply below_drew1) | exact HB.out)⟩⟩
                          · rw [if_neg c41] at H
                            have c41b0 : decide ((bt x0_6 x12_3) ≤ 90) = false := decide_eq_false c41
                            clear c41
                            by_cases c42 : (bt x0_6 x12_3) ≥ 48
                            · rw [if_pos c42] at H
                              have c42b0 : decide (48 ≤ (bt x0_6 x12_3)) = true := decide_eq_true c42
                              clear c42
                              by_cases c43 : (bt x0_6 x12_3) ≤ 57
                              · rw [if_pos c43] at H
                                have c43b0 : decide ((bt x0_6 x12_3) ≤ 57) = true := decide_eq_true c43
                                clear c43
                                have H' := Aside0.mk H
                                clear H
                                have p30 : 0 ≤ (x12_3 : Int) := of_decide_eq_true (by first | (with_reducible assumption) | assumption)
                                have q30 : x12_3 < (x0_6.size : Int) := of_decide_eq_true (by first | (with_reducible assumption) | assumption)
                                have hx30 := bt_at x0_6 x12_3
                                replace p30 := eq_true p30
                                replace q30 := eq_true q30
                                go_wp2
                                go_roundg k3
                                case measure => have := HJ6.out; have := HJ20.out; have := HK3.out; omega
                                case rel => exact ⟨(true), (wrap64 (x12_3 + 1)), (by first | rfl | (simp; done) | (simp [*]; done)), (by first | rfl | (simp; done) | (simp [*]; done)), H', ⟨by have := HJ6.out; have := HJ20.out; have := HK3.out; omega⟩, ⟨by repeat (first | (with_reducible first | exact HB.out | apply below_alloc | apply pw_below_drewN | apply below_drew1) | exact HB.out)⟩⟩
                              · rw [if_neg c43] at H
                                have c43b0 : decide ((bt x0_6 x12_3) ≤ 57) = false := decide_eq_false c43
                                clear c43
                                have H' := Aside0.mk H
                                clear H
                                have p30 : 0 ≤ (x12_3 : Int) := of_decide_eq_true (by first | (with_reducible assumption) | assumption)
                                have q30 : x12_3 < (x0_6.size : Int) := of_decide_eq_true (by first | (with_reducible assumption) | assumption)
                                have hx30 := bt_at x0_6 x12_3
                                replace p30 := eq_true p30
                                replace q30 := eq_true q30
                                go_wp2
                                go_roundg k3
                                case measure => have := HJ6.out; have := HJ20.out; have := HK3.out; omega
                                case rel => exact ⟨(((bt x0_6 x12_3) == 95)), (wrap64 (x12_3 + 1)), (by first | rfl | (simp; done) | (simp [*]; done)), (by first | rfl | (simp; done) | (simp [*]; done)), H', ⟨by have := HJ6.out; have := HJ20.out; have := HK3.out; omega⟩, ⟨by repeat (first | (with_reducible first | exact HB.out | apply below_alloc | apply pw_below_drewN | apply below_drew1) | exact HB.out)⟩⟩
                            · rw [if_neg c42] at H
                              have c42b0 : decide (48 ≤ (bt x0_6 x12_3)) = false := decide_eq_false c42
                              clear c42
                              have H' := Aside0.mk H
                              clear H
                              have p30 : 0 ≤ (x12_3 : Int) := of_decide_eq_true (by first | (with_reducible assumption) | assumption)
                              have q30 : x12_3 < (x0_6.size : Int) := of_decide_eq_true (by first | (with_reducible assumption) | assumption)
                              have hx30 := bt_at x0_6 x12_3
                              replace p30 := eq_true p30
                              replace q30 := eq_true q30
                              go_wp2
                              go_roundg k3
                              case measure => have := HJ6.out; have := HJ20.out; have := HK3.out; omega
                              case rel => exact ⟨(((bt x0_6 x12_3) == 95)), (wrap64 (x12_3 + 1)), (by first | rfl | (simp; done) | (simp [*]; done)), (by first | rfl | (simp; done) | (simp [*]; done)), H', ⟨by have := HJ6.out; have := HJ20.out; have := HK3.out; omega⟩, ⟨by repeat (first | (with_reducible first | exact HB.out | apply below_alloc | apply pw_below_drewN | apply below_drew1) | exact HB.out)⟩⟩
                        · rw [if_neg c40] at H
                          have c40b0 : decide (65 ≤ (bt x0_6 x12_3)) = false := decide_eq_false c40
                          clear c40
                          by_cases c44 : (bt x0_6 x12_3) ≥ 48
                          · rw [if_pos c44] at H
                            have c44b0 : decide (48 ≤ (bt x0_6 x12_3)) = true := decide_eq_true c44
                            clear c44
                            by_cases c45 : (bt x0_6 x12_3) ≤ 57
                            · rw [if_pos c45] at H
                              have c45b0 : decide ((bt x0_6 x12_3) ≤ 57) = true := decide_eq_true c45
                              clear c45
                              have H' := Aside0.mk H
                              clear H
                              have p30 : 0 ≤ (x12_3 : Int) := of_decide_eq_true (by first | (with_reducible assumption) | assumption)
                              have q30 : x12_3 < (x0_6.size : Int) := of_decide_eq_true (by first | (with_reducible assumption) | assumption)
                              have hx30 := bt_at x0_6 x12_3
                              replace p30 := eq_true p30
                              replace q30 := eq_true q30
                              go_wp2
                              go_roundg k3
                              case measure => have := HJ6.out; have := HJ20.out; have := HK3.out; omega
                              case rel => exact ⟨(true), (wrap64 (x12_3 + 1)), (by first | rfl | (simp; done) | (simp [*]; done)), (by first | rfl | (simp; done) | (simp [*]; done)), H', ⟨by have := HJ6.out; have := HJ20.out; have := HK3.out; omega⟩, ⟨by repeat (first | (with_reducible first | exact HB.out | apply below_alloc | apply pw_below_drewN | apply below_drew1) | exact HB.out)⟩⟩
                            · rw [if_neg c45] at H
                              have c45b0 : decide ((bt x0_6 x12_3) ≤ 57) = false := decide_eq_false c45
                              clear c45
                              have H' := Aside0.mk H
                              clear H
                              have p30 : 0 ≤ (x12_3 : Int) := of_decide_eq_true (by first | (with_reducible assumption) | assumption)
                              have q30 : x12_3 < (x0_6.size : Int) := of_decide_eq_true (by first | (with_reducible assumption) | assumption)
                              have hx30 := bt_at x0_6 x12_3
                              replace p30 := eq_true p30
                              replace q30 := eq_true q30
                              go_wp2
                              go_roundg k3
                              case measure => have := HJ6.out; have := HJ20.out; have := HK3.out; omega
                              case rel => exact ⟨(((bt x0_6 x12_3) == 95)), (wrap64 (x12_3 + 1)), (by first | rfl | (simp; done) | (simp [*]; done)), (by first | rfl | (simp; done) | (simp [*]; done)), H', ⟨by have := HJ6.out; have := HJ20.out; have := HK3.out; omega⟩, ⟨by repeat (first | (with_reducible first | exact HB.out | apply below_alloc | apply pw_below_drewN | apply below_drew1) | exact HB.out)⟩⟩
                          · rw [if_neg c44] at H
                            have c44b0 : decide (48 ≤ (bt x0_6 x12_3)) = false := decide_eq_false c44
                            clear c44
                            have H' := Aside0.mk H
                            clear H
                            have p30 : 0 ≤ (x12_3 : Int) := of_decide_eq_true (by first | (with_reducible assumption) | assumption)
                            have q30 : x12_3 < (x0_6.size : Int) := of_decide_eq_true (by first | (with_reducible assumption) | assumption)
                            have hx30 := bt_at x0_6 x12_3
                            replace p30 := eq_true p30
                            replace q30 := eq_true q30
                            go_wp2
                            go_roundg k3
                            case measure => have := HJ6.out; have := HJ20.out; have := HK3.out; omega
                            case rel => exact ⟨(((bt x0_6 x12_3) == 95)), (wrap64 (x12_3 + 1)), (by first | rfl | (simp; done) | (simp [*]; done)), (by first | rfl | (simp; done) | (simp [*]; done)), H', ⟨by have := HJ6.out; have := HJ20.out; have := HK3.out; omega⟩, ⟨by repeat (first | (with_reducible first | exact HB.out | apply below_alloc | apply pw_below_drewN | apply below_drew1) | exact HB.out)⟩⟩
                    · replace c31 := Bool.eq_false_iff.mpr c31
                      subst c31
                      have H1 : (archivistlaw06_LabelNames.l1 k3 x0_6 a3 true false (wrap64 (x12_3 + 1))) = some r := by rw [if_neg (show ¬ (false = true) by decide)] at H; exact H
                      clear H
                      have H := H1
                      clear H1
                      have H' := Aside0.mk H
                      clear H
                      have p30 : 0 ≤ (x12_3 : Int) := of_decide_eq_true (by first | (with_reducible assumption) | assumption)
                      have q30 : x12_3 < (x0_6.size : Int) := of_decide_eq_true (by first | (with_reducible assumption) | assumption)
                      have hx30 := bt_at x0_6 x12_3
                      replace p30 := eq_true p30
                      replace q30 := eq_true q30
                      go_wp2
                      go_roundg k3
                      case measure => have := HJ6.out; have := HJ20.out; have := HK3.out; omega
                      case rel => exact ⟨(false), (wrap64 (x12_3 + 1)), (by first | rfl | (simp; done) | (simp [*]; done)), (by first | rfl | (simp; done) | (simp [*]; done)), H', ⟨by have := HJ6.out; have := HJ20.out; have := HK3.out; omega⟩, ⟨by repeat (first | (with_reducible first | exact HB.out | apply below_alloc | apply pw_below_drewN | apply below_drew1) | exact HB.out)⟩⟩
                  · rw [if_neg c29] at H
                    exact absurd H (by simp)
                · rw [if_neg c28] at H
                  have c28b0 : decide (x12_3 < (x0_6.size : Int)) = false := decide_eq_false c28
                  clear c28
                  have HC46 := Aside0.mk H
                  clear H
                  go_upto_region 16 with (fail)
                  go_cut [14] (fun v14 wc => ∃ (kq : Nat) (x14_45 : Bool), v14 = .bool x14_45 ∧ Aside0 (archivistlaw06_LabelNames.j4 kq x0_6 a3 true x11_3 x14_45 = some r) ∧ Aside0 (kq ≤ k3) ∧ Aside0 (Below w.heap.size w wc))
                  case first =>
                    have H := HC46.out
                    clear HC46
                    by_cases c47 : a3 ≥ 97
                    · rw [if_pos c47] at H
                      have c47b0 : decide (97 ≤ a3) = true := decide_eq_true c47
                      clear c47
                      (first | rw [c47b0] | (simp only [i64_w, i32_w]; rw [c47b0]) | skip)
                      by_cases c48 : a3 ≤ 122
                      · rw [if_pos c48] at H
                        have c48b0 : decide (a3 ≤ 122) = true := decide_eq_true c48
                        clear c48
                        have H' := Aside0.mk H
                        clear H
                        go_wp2
                        go_meet
                        case rel => exact ⟨_, (true), (by first | rfl | (simp; done) | (simp [*]; done)), H', ⟨by have := HJ6.out; have := HJ20.out; have := HK3.out; first | omega | exact Nat.le_refl _⟩, ⟨by repeat (first | (with_reducible first | exact HB.out | apply below_alloc | apply pw_below_drewN | apply below_drew1) | exact HB.out)⟩⟩
                      · rw [if_neg c48] at H
                        have c48b0 : decide (a3 ≤ 122) = false := decide_eq_false c48
                        clear c48
                        by_cases c49 : a3 ≥ 65
                        · rw [if_pos c49] at H
                          have c49b0 : decide (65 ≤ a3) = true := decide_eq_true c49
                          clear c49
                          by_cases c50 : a3 ≤ 90
                          · rw [if_pos c50] at H
                            have c50b0 : decide (a3 ≤ 90) = true := decide_eq_true c50
                            clear c50
                            have H' := Aside0.mk H
                            clear H
                            go_wp2
                            go_meet
                            case rel => exact ⟨_, (true), (by first | rfl | (simp; done) | (simp [*]; done)), H', ⟨by have := HJ6.out; have := HJ20.out; have := HK3.out; first | omega | exact Nat.le_refl _⟩, ⟨by repeat (first | (with_reducible first | exact HB.out | apply below_alloc | apply pw_below_drewN | apply below_drew1) | exact HB.out)⟩⟩
                          · rw [if_neg c50] at H
                            have c50b0 : decide (a3 ≤ 90) = false := decide_eq_false c50
                            clear c50
                            have H' := Aside0.mk H
                            clear H
                            go_wp2
                            go_meet
                            case rel => exact ⟨_, ((a3 == 95)), (by first | rfl | (simp; done) | (simp [*]; done)), H', ⟨by have := HJ6.out; have := HJ20.out; have := HK3.out; first | omega | exact Nat.le_refl _⟩, ⟨by repeat (first | (with_reducible first | exact HB.out | apply below_alloc | apply pw_below_drewN | apply below_drew1) | exact HB.out)⟩⟩
                        · rw [if_neg c49] at H
                          have c49b0 : decide (65 ≤ a3) = false := decide_eq_false c49
                          clear c49
                          have H' := Aside0.mk H
                          clear H
                          go_wp2
                          go_meet
                          case rel => exact ⟨_, ((a3 == 95)), (by first | rfl | (simp; done) | (simp [*]; done)), H', ⟨by have := HJ6.out; have := HJ20.out; have := HK3.out; first | omega | exact Nat.le_refl _⟩, ⟨by repeat (first | (with_reducible first | exact HB.out | apply below_alloc | apply pw_below_drewN | apply below_drew1) | exact HB.out)⟩⟩
                    · rw [if_neg c47] at H
                      have c47b0 : decide (97 ≤ a3) = false := decide_eq_false c47
                      clear c47
                      (first | rw [c47b0] | (simp only [i64_w, i32_w]; rw [c47b0]) | skip)
                      by_cases c51 : a3 ≥ 65
                      · rw [if_pos c51] at H
                        have c51b0 : decide (65 ≤ a3) = true := decide_eq_true c51
                        clear c51
                        by_cases c52 : a3 ≤ 90
                        · rw [if_pos c52] at H
                          have c52b0 : decide (a3 ≤ 90) = true := decide_eq_true c52
                          clear c52
                          have H' := Aside0.mk H
                          clear H
                          go_wp2
                          go_meet
                          case rel => exact ⟨_, (true), (by first | rfl | (simp; done) | (simp [*]; done)), H', ⟨by have := HJ6.out; have := HJ20.out; have := HK3.out; first | omega | exact Nat.le_refl _⟩, ⟨by repeat (first | (with_reducible first | exact HB.out | apply below_alloc | apply pw_below_drewN | apply below_drew1) | exact HB.out)⟩⟩
                        · rw [if_neg c52] at H
                          have c52b0 : decide (a3 ≤ 90) = false := decide_eq_false c52
                          clear c52
                          have H' := Aside0.mk H
                          clear H
                          go_wp2
                          go_meet
                          case rel => exact ⟨_, ((a3 == 95)), (by first | rfl | (simp; done) | (simp [*]; done)), H', ⟨by have := HJ6.out; have := HJ20.out; have := HK3.out; first | omega | exact Nat.le_refl _⟩, ⟨by repeat (first | (with_reducible first | exact HB.out | apply below_alloc | apply pw_below_drewN | apply below_drew1) | exact HB.out)⟩⟩
                      · rw [if_neg c51] at H
                        have c51b0 : decide (65 ≤ a3) = false := decide_eq_false c51
                        clear c51
                        have H' := Aside0.mk H
                        clear H
                        go_wp2
                        go_meet
                        case rel => exact ⟨_, ((a3 == 95)), (by first | rfl | (simp; done) | (simp [*]; done)), H', ⟨by have := HJ6.out; have := HJ20.out; have := HK3.out; first | omega | exact Nat.le_refl _⟩, ⟨by repeat (first | (with_reducible first | exact HB.out | apply below_alloc | apply pw_below_drewN | apply below_drew1) | exact HB.out)⟩⟩
                  case rest =>
                    clear HC46
                    try clear c1
                    try clear p1
                    try clear q1
                    try clear hx1
                    try clear c2
                    try clear p2
                    try clear q2
                    try clear hx2
                    try clear hcv2
                    try clear qi2
                    try clear c3
                    try clear p3
                    try clear q3
                    try clear hx3
                    try clear c4
                    try clear c5
                    try clear c6
                    try clear p6
                    try clear q6
                    try clear hx6
                    try clear c8
                    try clear c9
                    try clear c10
                    try clear c10b0
                    try clear c11
                    try clear c11b0
                    try clear c12
                    try clear c12b0
                    try clear c14
                    try clear c14b0
                    try clear c15
                    try clear c15b0
                    try clear p16
                    try clear q16
                    try clear hx16
                    try clear c17
                    try clear c17b0
                    try clear c17b1
                    try clear c17b2
                    try clear hcv20
                    try clear c22
                    try clear c22b0
                    try clear c22b1
                    try clear c23
                    try clear c23b0
                    try clear c23b1
                    try clear c24
                    try clear c24b0
                    try clear c24b1
                    try clear p25
                    try clear q25
                    try clear hx25
                    try clear qi25
                    try clear c26
                    try clear c26b0
                    try clear p27
                    try clear q27
                    try clear hx27
                    try clear qi27
                    try clear c28
                    try clear c28b0
                    try clear c29
                    try clear c29b0
                    try clear p30
                    try clear q30
                    try clear hx30
                    try clear c31
                    try clear c32
                    try clear c32b0
                    try clear c33
                    try clear c33b0
                    try clear c34
                    try clear c34b0
                    try clear c35
                    try clear c35b0
                    try clear c36
                    try clear c36b0
                    try clear c37
                    try clear c37b0
                    try clear c38
                    try clear c38b0
                    try clear c39
                    try clear c39b0
                    try clear c40
                    try clear c40b0
                    try clear c41
                    try clear c41b0
                    try clear c42
                    try clear c42b0
                    try clear c43
                    try clear c43b0
                    try clear c44
                    try clear c44b0
                    try clear c45
                    try clear c45b0
                    try clear c47
                    try clear c47b0
                    try clear c48
                    try clear c48b0
                    try clear c49
                    try clear c49b0
                    try clear c50
                    try clear c50b0
                    try clear c51
                    try clear c51b0
                    try clear c52
                    try clear c52b0
                    try clear hx612_0
                    try clear p1
                    try clear p16
                    try clear p2
                    try clear p25
                    try clear p27
                    try clear p30
                    try clear p6
                    try clear p612
                    try clear q1
                    try clear q16
                    try clear q2
                    try clear q25
                    try clear q27
                    try clear q30
                    try clear q6
                    try clear q612
                    obtain ⟨kq, x14_45, rfl, HA, HJ45, HB⟩ := hcut
                    cases kq with
                    | zero => exact absurd HA.out (by simp [archivistlaw06_LabelNames.j4])
                    | succ kj45 =>
                      have H := HA.out
                      clear HA
                      simp only [archivistlaw06_LabelNames.j4] at H
                      by_cases c53 : true = true
                      · clear c53
                        have H1 : ((label_Name.f kj45 x0_6).bind fun t616 => (if (t616 == x11_3) = true then ((label_Name.f kj45 (strOfNums (([a3] : List Int)))).bind fun t620 => (if (t620 == x14_45) = true then ((label_Name.f kj45 (strOfNums (([120, a3] : List Int)))).bind fun t624 => (if x14_45 = true then (some (t624 == true)) else (if a3 ≥ 48 then (some (t624 == (decide (a3 ≤ 57)))) else (some (t624 == false))))) else (none))) else (none))) = some r := by first | (rw [if_pos rfl] at H; exact H) | (rw [if_pos trivial] at H; exact H)
                        clear H
                        have H := H1
                        clear H1
                        replace H := Option.bind_eq_some_iff.mp H
                        obtain ⟨t616, A540, H⟩ := H
                        replace H : (if (t616 == x11_3) = true then ((label_Name.f kj45 (strOfNums (([a3] : List Int)))).bind fun t620 => (if (t620 == x14_45) = true then ((label_Name.f kj45 (strOfNums (([120, a3] : List Int)))).bind fun t624 => (if x14_45 = true then (some (t624 == true)) else (if a3 ≥ 48 then (some (t624 == (decide (a3 ≤ 57)))) else (some (t624 == false))))) else (none))) else (none)) = some r := H
                        have A54 := Aside0.mk A540
                        clear A540
                        by_cases c55 : (t616 == x11_3) = true
                        · rw [if_pos c55] at H
                          have c55b0 : (t616 == x11_3) = true := c55
                          (try (have c55b1 : decide (t616 = x11_3) = true := by simpa using c55))
                          (try (have c55b2 : (t616 == x11_3) = true := by simpa using c55))
                          clear c55
                          obtain ⟨y617, hy617⟩ : ∃ y_ : List Int, y_ = (([a3] : List Int)) := ⟨_, rfl⟩
                          replace H : ((label_Name.f kj45 (strOfNums y617)).bind fun t620 => (if (t620 == x14_45) = true then ((label_Name.f kj45 (strOfNums (([120, a3] : List Int)))).bind fun t624 => (if x14_45 = true then (some (t624 == true)) else (if a3 ≥ 48 then (some (t624 == (decide (a3 ≤ 57)))) else (some (t624 == false))))) else (none))) = some r := by first | (rw [hy617]; with_reducible exact H) | (have H2_ := (Option.bind_some _ _).symm.trans H; rw [hy617]; with_reducible exact H2_) | (have H2_ := (Option.bind_some _ _).symm.trans H; with_reducible exact H2_) | with_reducible exact H | (rw [hy617]; exact H) | exact H
                          have Ny617 := Aside0.mk hy617
                          clear hy617
                          replace H := Option.bind_eq_some_iff.mp H
                          obtain ⟨t620, A560, H⟩ := H
                          replace H : (if (t620 == x14_45) = true then ((label_Name.f kj45 (strOfNums (([120, a3] : List Int)))).bind fun t624 => (if x14_45 = true then (some (t624 == true)) else (if a3 ≥ 48 then (some (t624 == (decide (a3 ≤ 57)))) else (some (t624 == false))))) else (none)) = some r := H
                          have A56 := Aside0.mk A560
                          clear A560
                          by_cases c57 : (t620 == x14_45) = true
                          · rw [if_pos c57] at H
                            have c57b0 : (t620 == x14_45) = true := c57
                            (try (have c57b1 : decide (t620 = x14_45) = true := by simpa using c57))
                            (try (have c57b2 : (t620 == x14_45) = true := by simpa using c57))
                            clear c57
                            obtain ⟨y621, hy621⟩ : ∃ y_ : List Int, y_ = (([120, a3] : List Int)) := ⟨_, rfl⟩
                            replace H : ((label_Name.f kj45 (strOfNums y621)).bind fun t624 => (if x14_45 = true then (some (t624 == true)) else (if a3 ≥ 48 then (some (t624 == (decide (a3 ≤ 57)))) else (some (t624 == false))))) = some r := by first | (rw [hy621]; with_reducible exact H) | (have H2_ := (Option.bind_some _ _).symm.trans H; rw [hy621]; with_reducible exact H2_) | (have H2_ := (Option.bind_some _ _).symm.trans H; with_reducible exact H2_) | with_reducible exact H | (rw [hy621]; exact H) | exact H
                            have Ny621 := Aside0.mk hy621
                            clear hy621
                            replace H := Option.bind_eq_some_iff.mp H
                            obtain ⟨t624, A580, H⟩ := H
                            replace H : (if x14_45 = true then (some (t624 == true)) else (if a3 ≥ 48 then (some (t624 == (decide (a3 ≤ 57)))) else (some (t624 == false)))) = some r := H
                            have A58 := Aside0.mk A580
                            clear A580
                            by_cases c59 : x14_45 = true
                            · subst c59
                              have H1 : (some (t624 == true)) = some r := by first | (rw [if_pos rfl] at H; exact H) | (rw [if_pos trivial] at H; exact H)
                              clear H
                              have H := H1
                              clear H1
                              obtain rfl := Option.some.inj H
                              go_wp2_with (first | (go_at_call 25; (with_reducible refine (label_Name.calls kj45 x0_6 t616 _ A54.out).mono ?_); rintro e w60 ⟨rfl, hb⟩; have n0_ := Aside0.mk (below_step (by repeat (first | (with_reducible first | exact HB.out | apply below_alloc | apply pw_below_drewN | apply below_drew1) | exact HB.out)) hb); clear HB; have HB := n0_; clear n0_; (try clear hb); (try clear hb2); (try clear hk); (try clear hi)) | ((with_reducible refine gate_dst (N := 122) rfl ?_); (try (refine gate_guard (by rfl) ?_; dsimp only)); refine Kd.R_lit (Kd.int .u8) _ 5 ?hg (N := 122) ?hd (xs := ([a3] : List Int)) (inner := [.int .u8 a3]) (ok := fun _ => True) (okp := fun _ => True) ?hr ?hp (fun _ hk => hk) trivial (Below.refl _ _) (Nat.le_refl _) (by simp) ?_; (case hd => rfl); (case hg => rfl); (case hr => first | (go_simp; done) | (go_simp; rfl)); (case hp => exact (Reps.one (show Kd.M (Kd.int .u8) _ _ _ a3 [.int .u8 a3] from rfl) (Reps.none _ _))); intro v618 w61 ho62 hb hg_ hnew_; clear hg_ hnew_; (first | rw [← Ny617.out] at ho62 | (simp only [Int.reduceToNat] at ho62; rw [← Ny617.out] at ho62)); have n0_ := Aside0.mk (Kd.R_lower ho62 (below_size (by repeat (first | (with_reducible first | exact HB.out | apply below_alloc | apply pw_below_drewN | apply below_drew1) | exact HB.out)))); have n1_ := Aside0.mk (below_step (by repeat (first | (with_reducible first | exact HB.out | apply below_alloc | apply pw_below_drewN | apply below_drew1) | exact HB.out)) hb); clear HB; have HO619 := n0_; have HB := n1_; clear n0_ n1_; clear hb ho62; have hcv63 := own_string (P := Try.prog) Try.underlying58 Try.underlying5 Try.underlying9 (Kd.own_of_R HO619.out)) | (go_at_call 25; (with_reducible refine (label_Name.calls kj45 (strOfNums y617) t620 _ A56.out).mono ?_); rintro e w64 ⟨rfl, hb⟩; have n0_ := Aside0.mk (Kd.R_below (by (with_reducible repeat (first | apply Kd.R_alloc | apply Kd.R_drewN | apply Kd.R_drew)); exact HO619.out) hb); have n1_ := Aside0.mk (below_step (by repeat (first | (with_reducible first | exact HB.out | apply below_alloc | apply pw_below_drewN | apply below_drew1) | exact HB.out)) hb); clear HO619; clear HB; have HO619 := n0_; have HB := n1_; clear n0_ n1_; (try clear hb); (try clear hb2); (try clear hk); (try clear hi)) | ((with_reducible refine gate_dst (N := 130) rfl ?_); (try (refine gate_guard (by rfl) ?_; dsimp only)); refine Kd.R_lit (Kd.int .u8) _ 5 ?hg (N := 130) ?hd (xs := ([120, a3] : List Int)) (inner := [.int .u8 120, .int .u8 a3]) (ok := fun _ => True) (okp := fun _ => True) ?hr ?hp (fun _ hk => hk) trivial (Below.refl _ _) (Nat.le_refl _) (by simp) ?_; (case hd => rfl); (case hg => rfl); (case hr => first | (go_simp; done) | (go_simp; rfl)); (case hp => exact (Reps.one (show Kd.M (Kd.int .u8) _ _ _ 120 [.int .u8 120] from rfl) (Reps.one (show Kd.M (Kd.int .u8) _ _ _ a3 [.int .u8 a3] from rfl) (Reps.none _ _)))); intro v622 w65 ho66 hb hg_ hnew_; clear hg_ hnew_; (first | rw [← Ny621.out] at ho66 | (simp only [Int.reduceToNat] at ho66; rw [← Ny621.out] at ho66)); have n0_ := Aside0.mk (Kd.R_elder' (by (with_reducible repeat (first | apply Kd.R_alloc | apply Kd.R_drewN | apply Kd.R_drew)); exact HO619.out) (Kd.R_base ho66) hb); have n1_ := Aside0.mk (Kd.R_lower (Kd.R_new' ho66 (Kd.R_lt (by (with_reducible repeat (first | apply Kd.R_alloc | apply Kd.R_drewN | apply Kd.R_drew)); exact HO619.out))) (below_size (by repeat (first | (with_reducible first | exact HB.out | apply below_alloc | apply pw_below_drewN | apply below_drew1) | exact HB.out)))); have n2_ := Aside0.mk (below_step (by repeat (first | (with_reducible first | exact HB.out | apply below_alloc | apply pw_below_drewN | apply below_drew1) | exact HB.out)) hb); clear HO619; clear HB; have HO619 := n0_; have HO623 := n1_; have HB := n2_; clear n0_ n1_ n2_; clear hb ho66; have hcv67 := own_string (P := Try.prog) Try.underlying58 Try.underlying5 Try.underlying9 (Kd.own_of_R HO623.out)) | (go_at_call 25; (with_reducible refine (label_Name.calls kj45 (strOfNums y621) t624 _ A58.out).mono ?_); rintro e w68 ⟨rfl, hb⟩; have n0_ := Aside0.mk (Kd.R_below (by (with_reducible repeat (first | apply Kd.R_alloc | apply Kd.R_drewN | apply Kd.R_drew)); exact HO619.out) hb); have n1_ := Aside0.mk (Kd.R_below (by (with_reducible repeat (first | apply Kd.R_alloc | apply Kd.R_drewN | apply Kd.R_drew)); exact HO623.out) hb); have n2_ := Aside0.mk (below_step (by repeat (first | (with_reducible first | exact HB.out | apply below_alloc | apply pw_below_drewN | apply below_drew1) | exact HB.out)) hb); clear HO619; clear HO623; clear HB; have HO619 := n0_; have HO623 := n1_; have HB := n2_; clear n0_ n1_ n2_; (try clear hb); (try clear hb2); (try clear hk); (try clear hi)))
                              go_ret
                              exact ⟨by first | rfl | (simp [errW_none, errW_some] <;> rfl) | (simp [*, errW_none, errW_some] <;> rfl), by repeat (first | (with_reducible first | exact HB.out | apply below_alloc | apply pw_below_drewN | apply below_drew1) | exact HB.out)⟩
                            · replace c59 := Bool.eq_false_iff.mpr c59
                              subst c59
                              have H1 : (if a3 ≥ 48 then (some (t624 == (decide (a3 ≤ 57)))) else (some (t624 == false))) = some r := by rw [if_neg (show ¬ (false = true) by decide)] at H; exact H
                              clear H
                              have H := H1
                              clear H1
                              by_cases c69 : a3 ≥ 48
                              · rw [if_pos c69] at H
                                have c69b0 : decide (48 ≤ a3) = true := decide_eq_true c69
                                clear c69
                                obtain rfl := Option.some.inj H
                                go_wp2_with (first | (go_at_call 25; (with_reducible refine (label_Name.calls kj45 x0_6 t616 _ A54.out).mono ?_); rintro e w70 ⟨rfl, hb⟩; have n0_ := Aside0.mk (below_step (by repeat (first | (with_reducible first | exact HB.out | apply below_alloc | apply pw_below_drewN | apply below_drew1) | exact HB.out)) hb); clear HB; have HB := n0_; clear n0_; (try clear hb); (try clear hb2); (try clear hk); (try clear hi)) | ((with_reducible refine gate_dst (N := 122) rfl ?_); (try (refine gate_guard (by rfl) ?_; dsimp only)); refine Kd.R_lit (Kd.int .u8) _ 5 ?hg (N := 122) ?hd (xs := ([a3] : List Int)) (inner := [.int .u8 a3]) (ok := fun _ => True) (okp := fun _ => True) ?hr ?hp (fun _ hk => hk) trivial (Below.refl _ _) (Nat.le_refl _) (by simp) ?_; (case hd => rfl); (case hg => rfl); (case hr => first | (go_simp; done) | (go_simp; rfl)); (case hp => exact (Reps.one (show Kd.M (Kd.int .u8) _ _ _ a3 [.int .u8 a3] from rfl) (Reps.none _ _))); intro v618 w71 ho72 hb hg_ hnew_; clear hg_ hnew_; (first | rw [← Ny617.out] at ho72 | (simp only [Int.reduceToNat] at ho72; rw [← Ny617.out] at ho72)); have n0_ := Aside0.mk (Kd.R_lower ho72 (below_size (by repeat (first | (with_reducible first | exact HB.out | apply below_alloc | apply pw_below_drewN | apply below_drew1) | exact HB.out)))); have n1_ := Aside0.mk (below_step (by repeat (first | (with_reducible first | exact HB.out | apply below_alloc | apply pw_below_drewN | apply below_drew1) | exact HB.out)) hb); clear HB; have HO619 := n0_; have HB := n1_; clear n0_ n1_; clear hb ho72; have hcv73 := own_string (P := Try.prog) Try.underlying58 Try.underlying5 Try.underlying9 (Kd.own_of_R HO619.out)) | (go_at_call 25; (with_reducible refine (label_Name.calls kj45 (strOfNums y617) t620 _ A56.out).mono ?_); rintro e w74 ⟨rfl, hb⟩; have n0_ := Aside0.mk (Kd.R_below (by (with_reducible repeat (first | apply Kd.R_alloc | apply Kd.R_drewN | apply Kd.R_drew)); exact HO619.out) hb); have n1_ := Aside0.mk (below_step (by repeat (first | (with_reducible first | exact HB.out | apply below_alloc | apply pw_below_drewN | apply below_drew1) | exact HB.out)) hb); clear HO619; clear HB; have HO619 := n0_; have HB := n1_; clear n0_ n1_; (try clear hb); (try clear hb2); (try clear hk); (try clear hi)) | ((with_reducible refine gate_dst (N := 130) rfl ?_); (try (refine gate_guard (by rfl) ?_; dsimp only)); refine Kd.R_lit (Kd.int .u8) _ 5 ?hg (N := 130) ?hd (xs := ([120, a3] : List Int)) (inner := [.int .u8 120, .int .u8 a3]) (ok := fun _ => True) (okp := fun _ => True) ?hr ?hp (fun _ hk => hk) trivial (Below.refl _ _) (Nat.le_refl _) (by simp) ?_; (case hd => rfl); (case hg => rfl); (case hr => first | (go_simp; done) | (go_simp; rfl)); (case hp => exact (Reps.one (show Kd.M (Kd.int .u8) _ _ _ 120 [.int .u8 120] from rfl) (Reps.one (show Kd.M (Kd.int .u8) _ _ _ a3 [.int .u8 a3] from rfl) (Reps.none _ _)))); intro v622 w75 ho76 hb hg_ hnew_; clear hg_ hnew_; (first | rw [← Ny621.out] at ho76 | (simp only [Int.reduceToNat] at ho76; rw [← Ny621.out] at ho76)); have n0_ := Aside0.mk (Kd.R_elder' (by (with_reducible repeat (first | apply Kd.R_alloc | apply Kd.R_drewN | apply Kd.R_drew)); exact HO619.out) (Kd.R_base ho76) hb); have n1_ := Aside0.mk (Kd.R_lower (Kd.R_new' ho76 (Kd.R_lt (by (with_reducible repeat (first | apply Kd.R_alloc | apply Kd.R_drewN | apply Kd.R_drew)); exact HO619.out))) (below_size (by repeat (first | (with_reducible first | exact HB.out | apply below_alloc | apply pw_below_drewN | apply below_drew1) | exact HB.out)))); have n2_ := Aside0.mk (below_step (by repeat (first | (with_reducible first | exact HB.out | apply below_alloc | apply pw_below_drewN | apply below_drew1) | exact HB.out)) hb); clear HO619; clear HB; have HO619 := n0_; have HO623 := n1_; have HB := n2_; clear n0_ n1_ n2_; clear hb ho76; have hcv77 := own_string (P := Try.prog) Try.underlying58 Try.underlying5 Try.underlying9 (Kd.own_of_R HO623.out)) | (go_at_call 25; (with_reducible refine (label_Name.calls kj45 (strOfNums y621) t624 _ A58.out).mono ?_); rintro e w78 ⟨rfl, hb⟩; have n0_ := Aside0.mk (Kd.R_below (by (with_reducible repeat (first | apply Kd.R_alloc | apply Kd.R_drewN | apply Kd.R_drew)); exact HO619.out) hb); have n1_ := Aside0.mk (Kd.R_below (by (with_reducible repeat (first | apply Kd.R_alloc | apply Kd.R_drewN | apply Kd.R_drew)); exact HO623.out) hb); have n2_ := Aside0.mk (below_step (by repeat (first | (with_reducible first | exact HB.out | apply below_alloc | apply pw_below_drewN | apply below_drew1) | exact HB.out)) hb); clear HO619; clear HO623; clear HB; have HO619 := n0_; have HO623 := n1_; have HB := n2_; clear n0_ n1_ n2_; (try clear hb); (try clear hb2); (try clear hk); (try clear hi)))
                                go_ret
                                exact ⟨by first | rfl | (simp [errW_none, errW_some] <;> rfl) | (simp [*, errW_none, errW_some] <;> rfl), by repeat (first | (with_reducible first | exact HB.out | apply below_alloc | apply pw_below_drewN | apply below_drew1) | exact HB.out)⟩
                              · rw [if_neg c69] at H
                                have c69b0 : decide (48 ≤ a3) = false := decide_eq_false c69
                                clear c69
                                obtain rfl := Option.some.inj H
                                go_wp2_with (first | (go_at_call 25; (with_reducible refine (label_Name.calls kj45 x0_6 t616 _ A54.out).mono ?_); rintro e w79 ⟨rfl, hb⟩; have n0_ := Aside0.mk (below_step (by repeat (first | (with_reducible first | exact HB.out | apply below_alloc | apply pw_below_drewN | apply below_drew1) | exact HB.out)) hb); clear HB; have HB := n0_; clear n0_; (try clear hb); (try clear hb2); (try clear hk); (try clear hi)) | ((with_reducible refine gate_dst (N := 122) rfl ?_); (try (refine gate_guard (by rfl) ?_; dsimp only)); refine Kd.R_lit (Kd.int .u8) _ 5 ?hg (N := 122) ?hd (xs := ([a3] : List Int)) (inner := [.int .u8 a3]) (ok := fun _ => True) (okp := fun _ => True) ?hr ?hp (fun _ hk => hk) trivial (Below.refl _ _) (Nat.le_refl _) (by simp) ?_; (case hd => rfl); (case hg => rfl); (case hr => first | (go_simp; done) | (go_simp; rfl)); (case hp => exact (Reps.one (show Kd.M (Kd.int .u8) _ _ _ a3 [.int .u8 a3] from rfl) (Reps.none _ _))); intro v618 w80 ho81 hb hg_ hnew_; clear hg_ hnew_; (first | rw [← Ny617.out] at ho81 | (simp only [Int.reduceToNat] at ho81; rw [← Ny617.out] at ho81)); have n0_ := Aside0.mk (Kd.R_lower ho81 (below_size (by repeat (first | (with_reducible first | exact HB.out | apply below_alloc | apply pw_below_drewN | apply below_drew1) | exact HB.out)))); have n1_ := Aside0.mk (below_step (by repeat (first | (with_reducible first | exact HB.out | apply below_alloc | apply pw_below_drewN | apply below_drew1) | exact HB.out)) hb); clear HB; have HO619 := n0_; have HB := n1_; clear n0_ n1_; clear hb ho81; have hcv82 := own_string (P := Try.prog) Try.underlying58 Try.underlying5 Try.underlying9 (Kd.own_of_R HO619.out)) | (go_at_call 25; (with_reducible refine (label_Name.calls kj45 (strOfNums y617) t620 _ A56.out).mono ?_); rintro e w83 ⟨rfl, hb⟩; have n0_ := Aside0.mk (Kd.R_below (by (with_reducible repeat (first | apply Kd.R_alloc | apply Kd.R_drewN | apply Kd.R_drew)); exact HO619.out) hb); have n1_ := Aside0.mk (below_step (by repeat (first | (with_reducible first | exact HB.out | apply below_alloc | apply pw_below_drewN | apply below_drew1) | exact HB.out)) hb); clear HO619; clear HB; have HO619 := n0_; have HB := n1_; clear n0_ n1_; (try clear hb); (try clear hb2); (try clear hk); (try clear hi)) | ((with_reducible refine gate_dst (N := 130) rfl ?_); (try (refine gate_guard (by rfl) ?_; dsimp only)); refine Kd.R_lit (Kd.int .u8) _ 5 ?hg (N := 130) ?hd (xs := ([120, a3] : List Int)) (inner := [.int .u8 120, .int .u8 a3]) (ok := fun _ => True) (okp := fun _ => True) ?hr ?hp (fun _ hk => hk) trivial (Below.refl _ _) (Nat.le_refl _) (by simp) ?_; (case hd => rfl); (case hg => rfl); (case hr => first | (go_simp; done) | (go_simp; rfl)); (case hp => exact (Reps.one (show Kd.M (Kd.int .u8) _ _ _ 120 [.int .u8 120] from rfl) (Reps.one (show Kd.M (Kd.int .u8) _ _ _ a3 [.int .u8 a3] from rfl) (Reps.none _ _)))); intro v622 w84 ho85 hb hg_ hnew_; clear hg_ hnew_; (first | rw [← Ny621.out] at ho85 | (simp only [Int.reduceToNat] at ho85; rw [← Ny621.out] at ho85)); have n0_ := Aside0.mk (Kd.R_elder' (by (with_reducible repeat (first | apply Kd.R_alloc | apply Kd.R_drewN | apply Kd.R_drew)); exact HO619.out) (Kd.R_base ho85) hb); have n1_ := Aside0.mk (Kd.R_lower (Kd.R_new' ho85 (Kd.R_lt (by (with_reducible repeat (first | apply Kd.R_alloc | apply Kd.R_drewN | apply Kd.R_drew)); exact HO619.out))) (below_size (by repeat (first | (with_reducible first | exact HB.out | apply below_alloc | apply pw_below_drewN | apply below_drew1) | exact HB.out)))); have n2_ := Aside0.mk (below_step (by repeat (first | (with_reducible first | exact HB.out | apply below_alloc | apply pw_below_drewN | apply below_drew1) | exact HB.out)) hb); clear HO619; clear HB; have HO619 := n0_; have HO623 := n1_; have HB := n2_; clear n0_ n1_ n2_; clear hb ho85; have hcv86 := own_string (P := Try.prog) Try.underlying58 Try.underlying5 Try.underlying9 (Kd.own_of_R HO623.out)) | (go_at_call 25; (with_reducible refine (label_Name.calls kj45 (strOfNums y621) t624 _ A58.out).mono ?_); rintro e w87 ⟨rfl, hb⟩; have n0_ := Aside0.mk (Kd.R_below (by (with_reducible repeat (first | apply Kd.R_alloc | apply Kd.R_drewN | apply Kd.R_drew)); exact HO619.out) hb); have n1_ := Aside0.mk (Kd.R_below (by (with_reducible repeat (first | apply Kd.R_alloc | apply Kd.R_drewN | apply Kd.R_drew)); exact HO623.out) hb); have n2_ := Aside0.mk (below_step (by repeat (first | (with_reducible first | exact HB.out | apply below_alloc | apply pw_below_drewN | apply below_drew1) | exact HB.out)) hb); clear HO619; clear HO623; clear HB; have HO619 := n0_; have HO623 := n1_; have HB := n2_; clear n0_ n1_ n2_; (try clear hb); (try clear hb2); (try clear hk); (try clear hi)))
                                go_ret
                                exact ⟨by first | rfl | (simp [errW_none, errW_some] <;> rfl) | (simp [*, errW_none, errW_some] <;> rfl), by repeat (first | (with_reducible first | exact HB.out | apply below_alloc | apply pw_below_drewN | apply below_drew1) | exact HB.out)⟩
                          · rw [if_neg c57] at H
                            exact absurd H (by simp)
                        · rw [if_neg c55] at H
                          exact absurd H (by simp)
                      · exact absurd rfl c53
  · replace c6 := Bool.eq_false_iff.mpr c6
    subst c6
    have H1 : (none) = some r := by rw [if_neg (show ¬ (false = true) by decide)] at H; exact H
    clear H
    have H := H1
    clear H1
    exact absurd H (by simp)

/-- THE ONE PURE STATEMENT of archivistlaw06_LabelNames: yours. -/
def archivistlaw06_LabelNames.Pure : Prop := ∀ (a0 : ByteArray) (a1 : Bool) (l2 : List Int) (a3 : Int), a0.size ≤ 140737488351232 → l2.length ≤ maxLen → l2.length * 1 ≤ 140737488351232 → (∀ x ∈ l2, (Lit.int .u8 x).wf = true) → (Lit.int .u8 a3).wf = true → ∃ k, archivistlaw06_LabelNames.f k a0 a1 l2 a3 = some true
theorem archivistlaw06_LabelNames.walk (P : archivistlaw06_LabelNames.Pure) (a0 : ByteArray) (a1 : Bool) (a2 : Option Addr) (len2 cap2 : Nat) (z2 : List Int) (a3 : Int) (w : World) (w0 : a0.size ≤ 140737488351232) (w2 : (a2 = none ∧ len2 = 0 ∧ cap2 = 0 ∧ z2 = []) ∨ ∃ x, a2 = some x ∧ len2 ≤ cap2 ∧ cap2 ≤ maxLen ∧ z2.length = cap2 ∧ (∀ i, i < z2.length → w.cell? (x.add i) = some (.int .u8 (z2.getD i 0))) ∧ ∀ n ∈ z2, (Lit.int .u8 n).wf = true) (y2 : len2 * 1 ≤ 140737488351232) (w3 : (Lit.int .u8 a3).wf = true) :
    Calls Try.prog 8 #[.string a0, .bool a1, .slice a2 len2 cap2, .int .u8 a3] w fun e w' => e = .returned (.bool true) ∧ Below w.heap.size w w' := by
  obtain ⟨l2, rfl, hr2, hm2, hw2, hc2⟩ := ReadsInt.ofRowC w2
  obtain ⟨k, h⟩ := P a0 a1 l2 a3 w0 hm2 y2 hw2 w3
  refine (archivistlaw06_LabelNames.calls k a0 a1 _ _ l2 a3 true w (Kd.C_of_reads (d := (0 : Int)) (h1 := fun _ => rfl) hr2) hc2 h).mono ?_
  rintro e w' ⟨rfl, hd⟩
  exact ⟨rfl, hd⟩

end Go.Proofs.Ytbkhgldinmabiaa.X
