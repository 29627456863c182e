-- Laid by xprint.py, a program of this session's, out of the translation.
import Derived.Test.YtdnicaponolmmaaDoorX0
import Derived.Test.YtdnicaponolmmaaDoorX1
import Derived.Test.YtdnicaponolmmaaDoorX2
namespace Go.Proofs.YtdnicaponolmmaaDoor.X
open Go.RowKit Go.Proofs.YtdnicaponolmmaaDoorW.PrintWords Go.Proofs.YtdnicaponolmmaaDoorW.PrintLast Go.Proofs.YtdnicaponolmmaaDoorW.PrintMore
attribute [local go_sem] max2_int min2_int max_two min_two max_three min_three max_four min_four x_isSome x_str_gtr x_str_leq x_str_geq   -- for this text's walks alone
set_option linter.unusedVariables false
set_option linter.unusedSimpArgs false

/-! ### archivistlaw02_NumBack: function 5 -/
def archivistlaw02_NumBack.j0 : Nat → Int → Int → Bool → Option (Bool)
  | 0, _, _, _ => none
  | k + 1, x0, x1, x7 => (num_Text.f x0).bind fun t214 => ((num_Parse.f t214).bind fun bt215 => ((num_Text.f x0).bind fun t217 => (if 1 + t217.size ≤ 9223372036854775807 then ((num_Parse.f ((⟨#[43]⟩ : ByteArray) ++ t217)).bind fun bt218 => ((num_Text.f x0).bind fun t220 => (if t220.size + 1 ≤ 9223372036854775807 then ((num_Parse.f (t220 ++ (⟨#[32]⟩ : ByteArray))).bind fun bt221 => (if x7 = true then (if bt215.1 = x0 then (if bt215.2 = true then (if bt218.2 = true then (none) else (if bt221.2 = true then (none) else ((num_Text.f x0).bind fun t223 => ((num_Text.f x1).bind fun t224 => (some ((t223.toList == t224.toList) == (x0 == x1))))))) else (none)) else (none)) else (none))) else (none)))) else (none))))
def archivistlaw02_NumBack.f (k : Nat) (a0 : Int) (a1 : Int) (a2 : Bool) : Option (Bool) := (archivistlaw02_examples.f k).bind fun t213 => (if t213 = true then (if a2 = true then (archivistlaw02_NumBack.j0 k a0 a0 t213) else (archivistlaw02_NumBack.j0 k a0 a1 t213)) else (none))
theorem archivistlaw02_NumBack.mono_l : ∀ k, (∀ y0 y1 y2, LeO (archivistlaw02_NumBack.j0 k y0 y1 y2) (archivistlaw02_NumBack.j0 (k + 1) y0 y1 y2))
  | 0 => fun _ _ _ r h => by simp [archivistlaw02_NumBack.j0] at h
  | k + 1 => by
    have ih0 := archivistlaw02_NumBack.mono_l k
    · intro y0 y1 y2
      unfold archivistlaw02_NumBack.j0
      repeat' first
      | (with_reducible exact ih0 _ _ _)
      | (with_reducible exact archivistlaw02_examples.mono _)
      | (with_reducible exact LeO.refl _)
      | (with_reducible exact LeO.none _)
      | (with_reducible refine LeO.ite ?_ ?_)
      | (with_reducible refine LeO.bind ?_ (fun _ => ?_))
      | exact ih0 _ _ _
      | exact archivistlaw02_examples.mono _
      | exact LeO.none _
      | refine LeO.ite ?_ ?_
      | refine LeO.bind ?_ (fun _ => ?_)
theorem archivistlaw02_NumBack.mono : ∀ a0 a1 a2 k, LeO (archivistlaw02_NumBack.f k a0 a1 a2) (archivistlaw02_NumBack.f (k + 1) a0 a1 a2) := by
  intro a0 a1 a2 k
  have ih0 := archivistlaw02_NumBack.mono_l k
  unfold archivistlaw02_NumBack.f
  repeat' first
      | (with_reducible exact ih0 _ _ _)
      | (with_reducible exact archivistlaw02_examples.mono _)
      | (with_reducible exact LeO.refl _)
      | (with_reducible exact LeO.none _)
      | (with_reducible refine LeO.ite ?_ ?_)
      | (with_reducible refine LeO.bind ?_ (fun _ => ?_))
      | exact ih0 _ _ _
      | exact archivistlaw02_examples.mono _
      | exact LeO.none _
      | refine LeO.ite ?_ ?_
      | refine LeO.bind ?_ (fun _ => ?_)
set_option maxHeartbeats 8000000 in
set_option maxRecDepth 100000 in
theorem archivistlaw02_NumBack.calls (k : Nat) (a0 : Int) (a1 : Int) (a2 : Bool) (r : Bool) (w : World) (h : archivistlaw02_NumBack.f k a0 a1 a2 = some r) (hLd : Laid w) :
    Calls Tryd.prog 5 #[.int .i64 a0, .int .i64 a1, .bool a2] w fun e w' => e = .returned (.bool r) ∧ Below w.heap.size w w' := by
  have HLd := Aside0.mk hLd
  clear hLd
  have HB := Aside0.mk (Below.refl w.heap.size w)
  have H : ((archivistlaw02_examples.f k).bind fun t213 => (if t213 = true then (if a2 = true then (archivistlaw02_NumBack.j0 k a0 a0 t213) else (archivistlaw02_NumBack.j0 k a0 a1 t213)) else (none))) = some r := h
  clear h
  replace H := Option.bind_eq_some_iff.mp H
  obtain ⟨t213, A40, H⟩ := H
  replace H : (if t213 = true then (if a2 = true then (archivistlaw02_NumBack.j0 k a0 a0 t213) else (archivistlaw02_NumBack.j0 k a0 a1 t213)) else (none)) = some r := H
  have A4 := Aside0.mk A40
  clear A40
  by_cases c5 : t213 = true
  · subst c5
    have H1 : (if a2 = true then (archivistlaw02_NumBack.j0 k a0 a0 true) else (archivistlaw02_NumBack.j0 k a0 a1 true)) = some r := by rw [if_pos rfl] at H; exact H
    clear H
    have H := H1
    clear H1
    have HC6 := Aside0.mk H
    clear H
    go_enter Tryd.func5, Tryd.ntmps5
    go_upto_if 17 with (first | ((with_reducible refine gate_callee (f := 9) rfl ?_); refine goesL_ (some 14) rfl rfl Tryd.func9 (by kernel_rfl) rfl #[] rfl (by (try simp only [List.map_toArray, List.map_cons, List.map_nil]); first | done | rfl | (simp only [List.length_drop, List.length_take]; rfl)) ?_; (with_reducible refine (archivistlaw02_examples.calls k  true _ A4.out ?sideLd).mono ?_); (case sideLd => exact laid_below HLd.out (by repeat (first | (with_reducible first | exact HB.out | apply below_alloc | apply pw_below_drewN | apply below_drew1) | exact HB.out))); rintro e w7 ⟨rfl, hb⟩; refine ⟨_, rfl, ?_⟩; have n0_ := Aside0.mk (below_step (by repeat (first | (with_reducible first | exact HB.out | apply below_alloc | apply pw_below_drewN | apply below_drew1) | exact HB.out)) hb); clear HB; have HB := n0_; clear n0_; (try clear hb); (try clear hb2); (try clear hk); (try clear hi)))
    (try simp only [Act.put, List.setIfInBounds_toArray, List.set_cons_zero, List.set_cons_succ])
    go_cut [1] (fun v1 wc => ∃ (kq : Nat) (x1_5 : Int), v1 = .int .i64 x1_5 ∧ Aside0 (archivistlaw02_NumBack.j0 kq a0 x1_5 true = some r) ∧ Aside0 (kq ≤ k) ∧ Aside0 (Below w.heap.size w wc))
    case first =>
      have H := HC6.out
      clear HC6
      by_cases c8 : a2 = true
      · subst c8
        have H1 : (archivistlaw02_NumBack.j0 k a0 a0 true) = some r := by rw [if_pos rfl] at H; exact H
        clear H
        have H := H1
        clear H1
        have H' := Aside0.mk H
        clear H
        go_wp2
        go_meet
        case rel => exact ⟨_, (a0), (by first | rfl | (simp; done) | (simp [*]; done)), H', ⟨by first | omega | exact Nat.le_refl _⟩, ⟨by repeat (first | (with_reducible first | exact HB.out | apply below_alloc | apply pw_below_drewN | apply below_drew1) | exact HB.out)⟩⟩
      · replace c8 := Bool.eq_false_iff.mpr c8
        subst c8
        have H1 : (archivistlaw02_NumBack.j0 k a0 a1 true) = some r := by rw [if_neg (show ¬ (false = true) by decide)] at H; exact H
        clear H
        have H := H1
        clear H1
        have H' := Aside0.mk H
        clear H
        go_wp2
        go_meet
        case rel => exact ⟨_, (a1), (by first | rfl | (simp; done) | (simp [*]; done)), H', ⟨by first | omega | exact Nat.le_refl _⟩, ⟨by repeat (first | (with_reducible first | exact HB.out | apply below_alloc | apply pw_below_drewN | apply below_drew1) | exact HB.out)⟩⟩
    case rest =>
      clear HC6
      try clear p2
      try clear c5
      try clear c8
      obtain ⟨kq, x1_5, rfl, HA, HJ5, HB⟩ := hcut
      cases kq with
      | zero => exact absurd HA.out (by simp [archivistlaw02_NumBack.j0])
      | succ kj5 =>
        have H := HA.out
        clear HA
        simp only [archivistlaw02_NumBack.j0] at H
        replace H := Option.bind_eq_some_iff.mp H
        obtain ⟨t214, A90, H⟩ := H
        replace H : ((num_Parse.f t214).bind fun bt215 => ((num_Text.f a0).bind fun t217 => (if 1 + t217.size ≤ 9223372036854775807 then ((num_Parse.f ((⟨#[43]⟩ : ByteArray) ++ t217)).bind fun bt218 => ((num_Text.f a0).bind fun t220 => (if t220.size + 1 ≤ 9223372036854775807 then ((num_Parse.f (t220 ++ (⟨#[32]⟩ : ByteArray))).bind fun bt221 => (if true = true then (if bt215.1 = a0 then (if bt215.2 = true then (if bt218.2 = true then (none) else (if bt221.2 = true then (none) else ((num_Text.f a0).bind fun t223 => ((num_Text.f x1_5).bind fun t224 => (some ((t223.toList == t224.toList) == (a0 == x1_5))))))) else (none)) else (none)) else (none))) else (none)))) else (none)))) = some r := H
        have A9 := Aside0.mk A90
        clear A90
        replace H := Option.bind_eq_some_iff.mp H
        obtain ⟨⟨t215, t216⟩, A100, H⟩ := H
        replace H : ((num_Text.f a0).bind fun t217 => (if 1 + t217.size ≤ 9223372036854775807 then ((num_Parse.f ((⟨#[43]⟩ : ByteArray) ++ t217)).bind fun bt218 => ((num_Text.f a0).bind fun t220 => (if t220.size + 1 ≤ 9223372036854775807 then ((num_Parse.f (t220 ++ (⟨#[32]⟩ : ByteArray))).bind fun bt221 => (if true = true then (if t215 = a0 then (if t216 = true then (if bt218.2 = true then (none) else (if bt221.2 = true then (none) else ((num_Text.f a0).bind fun t223 => ((num_Text.f x1_5).bind fun t224 => (some ((t223.toList == t224.toList) == (a0 == x1_5))))))) else (none)) else (none)) else (none))) else (none)))) else (none))) = some r := H
        have A10 := Aside0.mk A100
        clear A100
        replace H := Option.bind_eq_some_iff.mp H
        obtain ⟨t217, A110, H⟩ := H
        replace H : (if 1 + t217.size ≤ 9223372036854775807 then ((num_Parse.f ((⟨#[43]⟩ : ByteArray) ++ t217)).bind fun bt218 => ((num_Text.f a0).bind fun t220 => (if t220.size + 1 ≤ 9223372036854775807 then ((num_Parse.f (t220 ++ (⟨#[32]⟩ : ByteArray))).bind fun bt221 => (if true = true then (if t215 = a0 then (if t216 = true then (if bt218.2 = true then (none) else (if bt221.2 = true then (none) else ((num_Text.f a0).bind fun t223 => ((num_Text.f x1_5).bind fun t224 => (some ((t223.toList == t224.toList) == (a0 == x1_5))))))) else (none)) else (none)) else (none))) else (none)))) else (none)) = some r := H
        have A11 := Aside0.mk A110
        clear A110
        by_cases c12 : 1 + t217.size ≤ 9223372036854775807
        · rw [if_pos c12] at H
          have c12b0 := eq_true c12
          have c12b1 : decide (1 + t217.size ≤ 9223372036854775807) = true := decide_eq_true c12
          try have c12b2 : (9223372036854775807 < 1 + t217.size) = False := eq_false (Nat.not_lt.2 c12)
          replace H := Option.bind_eq_some_iff.mp H
          obtain ⟨⟨t218, t219⟩, A130, H⟩ := H
          replace H : ((num_Text.f a0).bind fun t220 => (if t220.size + 1 ≤ 9223372036854775807 then ((num_Parse.f (t220 ++ (⟨#[32]⟩ : ByteArray))).bind fun bt221 => (if true = true then (if t215 = a0 then (if t216 = true then (if t219 = true then (none) else (if bt221.2 = true then (none) else ((num_Text.f a0).bind fun t223 => ((num_Text.f x1_5).bind fun t224 => (some ((t223.toList == t224.toList) == (a0 == x1_5))))))) else (none)) else (none)) else (none))) else (none))) = some r := H
          have A13 := Aside0.mk A130
          clear A130
          replace H := Option.bind_eq_some_iff.mp H
          obtain ⟨t220, A140, H⟩ := H
          replace H : (if t220.size + 1 ≤ 9223372036854775807 then ((num_Parse.f (t220 ++ (⟨#[32]⟩ : ByteArray))).bind fun bt221 => (if true = true then (if t215 = a0 then (if t216 = true then (if t219 = true then (none) else (if bt221.2 = true then (none) else ((num_Text.f a0).bind fun t223 => ((num_Text.f x1_5).bind fun t224 => (some ((t223.toList == t224.toList) == (a0 == x1_5))))))) else (none)) else (none)) else (none))) else (none)) = some r := H
          have A14 := Aside0.mk A140
          clear A140
          by_cases c15 : t220.size + 1 ≤ 9223372036854775807
          · rw [if_pos c15] at H
            have c15b0 := eq_true c15
            have c15b1 : decide (t220.size + 1 ≤ 9223372036854775807) = true := decide_eq_true c15
            try have c15b2 : (9223372036854775807 < t220.size + 1) = False := eq_false (Nat.not_lt.2 c15)
            replace H := Option.bind_eq_some_iff.mp H
            obtain ⟨⟨t221, t222⟩, A160, H⟩ := H
            replace H : (if true = true then (if t215 = a0 then (if t216 = true then (if t219 = true then (none) else (if t222 = true then (none) else ((num_Text.f a0).bind fun t223 => ((num_Text.f x1_5).bind fun t224 => (some ((t223.toList == t224.toList) == (a0 == x1_5))))))) else (none)) else (none)) else (none)) = some r := H
            have A16 := Aside0.mk A160
            clear A160
            by_cases c17 : true = true
            · clear c17
              have H1 : (if t215 = a0 then (if t216 = true then (if t219 = true then (none) else (if t222 = true then (none) else ((num_Text.f a0).bind fun t223 => ((num_Text.f x1_5).bind fun t224 => (some ((t223.toList == t224.toList) == (a0 == x1_5))))))) else (none)) else (none)) = some r := by first | (rw [if_pos rfl] at H; exact H) | (rw [if_pos trivial] at H; exact H)
              clear H
              have H := H1
              clear H1
              by_cases c18 : t215 = a0
              · rw [if_pos c18] at H
                have c18b0 : (t215 == a0) = true := beq_iff_eq.mpr c18
                have c18b1 : (t215 != a0) = false := bne_eq_false_iff_eq.mpr c18
                clear c18
                by_cases c19 : t216 = true
                · subst c19
                  have H1 : (if t219 = true then (none) else (if t222 = true then (none) else ((num_Text.f a0).bind fun t223 => ((num_Text.f x1_5).bind fun t224 => (some ((t223.toList == t224.toList) == (a0 == x1_5))))))) = some r := by first | (rw [if_pos rfl] at H; exact H) | (rw [if_pos trivial] at H; exact H)
                  clear H
                  have H := H1
                  clear H1
                  by_cases c20 : t219 = true
                  · subst c20
                    have H1 : (none) = some r := by first | (rw [if_pos rfl] at H; exact H) | (rw [if_pos trivial] at H; exact H)
                    clear H
                    have H := H1
                    clear H1
                    exact absurd H (by simp)
                  · replace c20 := Bool.eq_false_iff.mpr c20
                    subst c20
                    have H1 : (if t222 = true then (none) else ((num_Text.f a0).bind fun t223 => ((num_Text.f x1_5).bind fun t224 => (some ((t223.toList == t224.toList) == (a0 == x1_5)))))) = some r := by rw [if_neg (show ¬ (false = true) by decide)] at H; exact H
                    clear H
                    have H := H1
                    clear H1
                    by_cases c21 : t222 = true
                    · subst c21
                      have H1 : (none) = some r := by first | (rw [if_pos rfl] at H; exact H) | (rw [if_pos trivial] at H; exact H)
                      clear H
                      have H := H1
                      clear H1
                      exact absurd H (by simp)
                    · replace c21 := Bool.eq_false_iff.mpr c21
                      subst c21
                      have H1 : ((num_Text.f a0).bind fun t223 => ((num_Text.f x1_5).bind fun t224 => (some ((t223.toList == t224.toList) == (a0 == x1_5))))) = some r := by rw [if_neg (show ¬ (false = true) by decide)] at H; exact H
                      clear H
                      have H := H1
                      clear H1
                      replace H := Option.bind_eq_some_iff.mp H
                      obtain ⟨t223, A220, H⟩ := H
                      replace H : ((num_Text.f x1_5).bind fun t224 => (some ((t223.toList == t224.toList) == (a0 == x1_5)))) = some r := H
                      have A22 := Aside0.mk A220
                      clear A220
                      replace H := Option.bind_eq_some_iff.mp H
                      obtain ⟨t224, A230, H⟩ := H
                      replace H : (some ((t223.toList == t224.toList) == (a0 == x1_5))) = some r := H
                      have A23 := Aside0.mk A230
                      clear A230
                      obtain rfl := Option.some.inj H
                      go_wp2_with (first | ((with_reducible refine gate_callee (f := 21) rfl ?_); refine goesL_ (some 21) rfl rfl Tryd.func21 (by kernel_rfl) rfl #[.int .i64 a0] rfl (by (try simp only [List.map_toArray, List.map_cons, List.map_nil]); first | done | rfl | (simp only [List.length_drop, List.length_take]; rfl)) ?_; (with_reducible refine (num_Text.calls a0 t214 _ A9.out ?sideLd).mono ?_); (case sideLd => exact laid_below HLd.out (by repeat (first | (with_reducible first | exact HB.out | apply below_alloc | apply pw_below_drewN | apply below_drew1) | exact HB.out))); rintro e w24 ⟨rfl, hb⟩; refine ⟨_, rfl, ?_⟩; have n0_ := Aside0.mk (below_step (by repeat (first | (with_reducible first | exact HB.out | apply below_alloc | apply pw_below_drewN | apply below_drew1) | exact HB.out)) hb); clear HB; have HB := n0_; clear n0_; (try clear hb); (try clear hb2); (try clear hk); (try clear hi)) | ((with_reducible refine gate_callee (f := 19) rfl ?_); refine goesL_ (some 22) rfl rfl Tryd.func19 (by kernel_rfl) rfl #[.string t214] rfl (by (try simp only [List.map_toArray, List.map_cons, List.map_nil]); first | done | rfl | (simp only [List.length_drop, List.length_take]; rfl)) ?_; (with_reducible refine (num_Parse.calls t214 t215 true _ A10.out ?sideLd).mono ?_); (case sideLd => exact laid_below HLd.out (by repeat (first | (with_reducible first | exact HB.out | apply below_alloc | apply pw_below_drewN | apply below_drew1) | exact HB.out))); rintro e w25 ⟨rfl, hb⟩; refine ⟨_, rfl, ?_⟩; have n0_ := Aside0.mk (below_step (by repeat (first | (with_reducible first | exact HB.out | apply below_alloc | apply pw_below_drewN | apply below_drew1) | exact HB.out)) hb); clear HB; have HB := n0_; clear n0_; (try clear hb); (try clear hb2); (try clear hk); (try clear hi)) | ((with_reducible refine gate_callee (f := 21) rfl ?_); refine goesL_ (some 27) rfl rfl Tryd.func21 (by kernel_rfl) rfl #[.int .i64 a0] rfl (by (try simp only [List.map_toArray, List.map_cons, List.map_nil]); first | done | rfl | (simp only [List.length_drop, List.length_take]; rfl)) ?_; (with_reducible refine (num_Text.calls a0 t217 _ A11.out ?sideLd).mono ?_); (case sideLd => exact laid_below HLd.out (by repeat (first | (with_reducible first | exact HB.out | apply below_alloc | apply pw_below_drewN | apply below_drew1) | exact HB.out))); rintro e w26 ⟨rfl, hb⟩; refine ⟨_, rfl, ?_⟩; have n0_ := Aside0.mk (below_step (by repeat (first | (with_reducible first | exact HB.out | apply below_alloc | apply pw_below_drewN | apply below_drew1) | exact HB.out)) hb); clear HB; have HB := n0_; clear n0_; (try clear hb); (try clear hb2); (try clear hk); (try clear hi)) | ((with_reducible refine gate_callee (f := 19) rfl ?_); refine goesL_ (some 29) rfl rfl Tryd.func19 (by kernel_rfl) rfl #[.string ((⟨#[43]⟩ : ByteArray) ++ t217)] rfl (by (try simp only [List.map_toArray, List.map_cons, List.map_nil]); first | done | rfl | (simp only [List.length_drop, List.length_take]; rfl)) ?_; (with_reducible refine (num_Parse.calls ((⟨#[43]⟩ : ByteArray) ++ t217) t218 false _ A13.out ?sideLd).mono ?_); (case sideLd => exact laid_below HLd.out (by repeat (first | (with_reducible first | exact HB.out | apply below_alloc | apply pw_below_drewN | apply below_drew1) | exact HB.out))); rintro e w27 ⟨rfl, hb⟩; refine ⟨_, rfl, ?_⟩; have n0_ := Aside0.mk (below_step (by repeat (first | (with_reducible first | exact HB.out | apply below_alloc | apply pw_below_drewN | apply below_drew1) | exact HB.out)) hb); clear HB; have HB := n0_; clear n0_; (try clear hb); (try clear hb2); (try clear hk); (try clear hi)) | ((with_reducible refine gate_callee (f := 21) rfl ?_); refine goesL_ (some 34) rfl rfl Tryd.func21 (by kernel_rfl) rfl #[.int .i64 a0] rfl (by (try simp only [List.map_toArray, List.map_cons, List.map_nil]); first | done | rfl | (simp only [List.length_drop, List.length_take]; rfl)) ?_; (with_reducible refine (num_Text.calls a0 t220 _ A14.out ?sideLd).mono ?_); (case sideLd => exact laid_below HLd.out (by repeat (first | (with_reducible first | exact HB.out | apply below_alloc | apply pw_below_drewN | apply below_drew1) | exact HB.out))); rintro e w28 ⟨rfl, hb⟩; refine ⟨_, rfl, ?_⟩; have n0_ := Aside0.mk (below_step (by repeat (first | (with_reducible first | exact HB.out | apply below_alloc | apply pw_below_drewN | apply below_drew1) | exact HB.out)) hb); clear HB; have HB := n0_; clear n0_; (try clear hb); (try clear hb2); (try clear hk); (try clear hi)) | ((with_reducible refine gate_callee (f := 19) rfl ?_); refine goesL_ (some 36) rfl rfl Tryd.func19 (by kernel_rfl) rfl #[.string (t220 ++ (⟨#[32]⟩ : ByteArray))] rfl (by (try simp only [List.map_toArray, List.map_cons, List.map_nil]); first | done | rfl | (simp only [List.length_drop, List.length_take]; rfl)) ?_; (with_reducible refine (num_Parse.calls (t220 ++ (⟨#[32]⟩ : ByteArray)) t221 false _ A16.out ?sideLd).mono ?_); (case sideLd => exact laid_below HLd.out (by repeat (first | (with_reducible first | exact HB.out | apply below_alloc | apply pw_below_drewN | apply below_drew1) | exact HB.out))); rintro e w29 ⟨rfl, hb⟩; refine ⟨_, rfl, ?_⟩; have n0_ := Aside0.mk (below_step (by repeat (first | (with_reducible first | exact HB.out | apply below_alloc | apply pw_below_drewN | apply below_drew1) | exact HB.out)) hb); clear HB; have HB := n0_; clear n0_; (try clear hb); (try clear hb2); (try clear hk); (try clear hi)) | (go_at_call 21; (with_reducible refine (num_Text.calls a0 t223 _ A22.out ?sideLd).mono ?_); (case sideLd => exact laid_below HLd.out (by repeat (first | (with_reducible first | exact HB.out | apply below_alloc | apply pw_below_drewN | apply below_drew1) | exact HB.out))); rintro e w30 ⟨rfl, hb⟩; have n0_ := Aside0.mk (below_step (by repeat (first | (with_reducible first | exact HB.out | apply below_alloc | apply pw_below_drewN | apply below_drew1) | exact HB.out)) hb); clear HB; have HB := n0_; clear n0_; (try clear hb); (try clear hb2); (try clear hk); (try clear hi)) | (go_at_call 21; (with_reducible refine (num_Text.calls x1_5 t224 _ A23.out ?sideLd).mono ?_); (case sideLd => exact laid_below HLd.out (by repeat (first | (with_reducible first | exact HB.out | apply below_alloc | apply pw_below_drewN | apply below_drew1) | exact HB.out))); rintro e w31 ⟨rfl, hb⟩; have n0_ := Aside0.mk (below_step (by repeat (first | (with_reducible first | exact HB.out | apply below_alloc | apply pw_below_drewN | apply below_drew1) | exact HB.out)) hb); clear HB; have HB := n0_; clear n0_; (try clear hb); (try clear hb2); (try clear hk); (try clear hi)))
                      go_ret
                      exact ⟨by first | rfl | (simp [errW_none, errW_some] <;> rfl) | (simp [*, errW_none, errW_some] <;> rfl), by repeat (first | (with_reducible first | exact HB.out | apply below_alloc | apply pw_below_drewN | apply below_drew1) | exact HB.out)⟩
                · replace c19 := Bool.eq_false_iff.mpr c19
                  subst c19
                  have H1 : (none) = some r := by rw [if_neg (show ¬ (false = true) by decide)] at H; exact H
                  clear H
                  have H := H1
                  clear H1
                  exact absurd H (by simp)
              · rw [if_neg c18] at H
                exact absurd H (by simp)
            · exact absurd rfl c17
          · rw [if_neg c15] at H
            exact absurd H (by simp)
        · rw [if_neg c12] at H
          exact absurd H (by simp)
  · replace c5 := Bool.eq_false_iff.mpr c5
    subst c5
    have H1 : (none) = some r := by rw [if_neg (show ¬ (false = true) by decide)] at H; exact H
    clear H
    have H := H1
    clear H1
    exact absurd H (by simp)

/-- THE ONE PURE STATEMENT of archivistlaw02_NumBack: yours. -/
def archivistlaw02_NumBack.Pure : Prop := ∀ (a0 : Int) (a1 : Int) (a2 : Bool), (Lit.int .i64 a0).wf = true → (Lit.int .i64 a1).wf = true → ∃ k, archivistlaw02_NumBack.f k a0 a1 a2 = some true
theorem archivistlaw02_NumBack.walk (P : archivistlaw02_NumBack.Pure) (a0 : Int) (a1 : Int) (a2 : Bool) (w : World) (w0 : (Lit.int .i64 a0).wf = true) (w1 : (Lit.int .i64 a1).wf = true) (hLd : Laid w) :
    Calls Tryd.prog 5 #[.int .i64 a0, .int .i64 a1, .bool a2] w fun e w' => e = .returned (.bool true) ∧ Below w.heap.size w w' := by
  obtain ⟨k, h⟩ := P a0 a1 a2 w0 w1
  refine (archivistlaw02_NumBack.calls k a0 a1 a2 true w h hLd).mono ?_
  rintro e w' ⟨rfl, hd⟩
  exact ⟨rfl, hd⟩

end Go.Proofs.YtdnicaponolmmaaDoor.X
