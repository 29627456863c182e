-- Laid by xprint.py, a program of this session's, out of the translation.
import Derived.Test.YtifcnblgpnfehaaX0
import Derived.Test.YtifcnblgpnfehaaX2
import Derived.Test.YtifcnblgpnfehaaX4
import Derived.Test.YtifcnblgpnfehaaX5
namespace Go.Proofs.Ytifcnblgpnfehaa.X
open Go.RowKit Go.Proofs.YtifcnblgpnfehaaW.PrintWords Go.Proofs.YtifcnblgpnfehaaW.PrintLast Go.Proofs.YtifcnblgpnfehaaW.PrintMore
attribute [local go_sem] max2_int min2_int max_two min_two max_three min_three max_four min_four x_isSome   -- for this text's walks alone
set_option linter.unusedVariables false
set_option linter.unusedSimpArgs false

/-! ### archivistlaw01_QuoteBack: function 10 -/
def archivistlaw01_QuoteBack.j0 : Nat → ByteArray → ByteArray → ByteArray → Int → Bool → Option (Bool)
  | 0, _, _, _, _, _ => none
  | k + 1, x0, x1, x2, x3, x11 => (quote_Put.f k x0).bind fun t253 => (if (t253.size : Int) < 2 then (none) else (if t253.size + x2.size ≤ 9223372036854775807 then ((quote_Get.f k (t253 ++ x2)).bind fun bt254 => (if (t253.size : Int) = 0 then (none) else (if 0 ≤ (Int.tmod (wrap64 (x3)) (t253.size : Int)) then (if (Int.tmod (wrap64 (x3)) (t253.size : Int)) ≤ (t253.size : Int) then ((quote_Get.f k (t253.extract 0 ((Int.tmod (wrap64 (x3)) (t253.size : Int)) : Int).toNat)).bind fun bt257 => (if x11 = true then (if bt254.1.toList = x0.toList then (if bt254.2.1 = (t253.size : Int) then (if bt254.2.2 = true then (if bt257.2.2 = true then (none) else ((quote_Put.f k x1).bind fun t260 => (some ((t253.toList == t260.toList) == (x0.toList == x1.toList))))) else (none)) else (none)) else (none)) else (none))) else (none)) else (none)))) else (none)))
def archivistlaw01_QuoteBack.f (k : Nat) (a0 : ByteArray) (a1 : ByteArray) (a2 : ByteArray) (a3 : Int) (a4 : Bool) : Option (Bool) := (archivistlaw01_examples.f k).bind fun t252 => (if t252 = true then (if a4 = true then (archivistlaw01_QuoteBack.j0 k a0 a0 a2 a3 t252) else (archivistlaw01_QuoteBack.j0 k a0 a1 a2 a3 t252)) else (none))
theorem archivistlaw01_QuoteBack.mono_l : ∀ k, (∀ y0 y1 y2 y3 y4, LeO (archivistlaw01_QuoteBack.j0 k y0 y1 y2 y3 y4) (archivistlaw01_QuoteBack.j0 (k + 1) y0 y1 y2 y3 y4))
  | 0 => fun _ _ _ _ _ r h => by simp [archivistlaw01_QuoteBack.j0] at h
  | k + 1 => by
    have ih0 := archivistlaw01_QuoteBack.mono_l k
    · intro y0 y1 y2 y3 y4
      unfold archivistlaw01_QuoteBack.j0
      repeat' first
      | (with_reducible exact ih0 _ _ _ _ _)
      | (with_reducible exact archivistlaw01_examples.mono _)
      | (with_reducible exact quote_Get.mono _ _)
      | (with_reducible exact quote_Put.mono _ _)
      | (with_reducible exact LeO.refl _)
      | (with_reducible exact LeO.none _)
      | (with_reducible refine LeO.ite ?_ ?_)
      | (with_reducible refine LeO.bind ?_ (fun _ => ?_))
      | exact ih0 _ _ _ _ _
      | exact archivistlaw01_examples.mono _
      | exact quote_Get.mono _ _
      | exact quote_Put.mono _ _
      | exact LeO.none _
      | refine LeO.ite ?_ ?_
      | refine LeO.bind ?_ (fun _ => ?_)
theorem archivistlaw01_QuoteBack.mono : ∀ a0 a1 a2 a3 a4 k, LeO (archivistlaw01_QuoteBack.f k a0 a1 a2 a3 a4) (archivistlaw01_QuoteBack.f (k + 1) a0 a1 a2 a3 a4) := by
  intro a0 a1 a2 a3 a4 k
  have ih0 := archivistlaw01_QuoteBack.mono_l k
  unfold archivistlaw01_QuoteBack.f
  repeat' first
      | (with_reducible exact ih0 _ _ _ _ _)
      | (with_reducible exact archivistlaw01_examples.mono _)
      | (with_reducible exact quote_Get.mono _ _)
      | (with_reducible exact quote_Put.mono _ _)
      | (with_reducible exact LeO.refl _)
      | (with_reducible exact LeO.none _)
      | (with_reducible refine LeO.ite ?_ ?_)
      | (with_reducible refine LeO.bind ?_ (fun _ => ?_))
      | exact ih0 _ _ _ _ _
      | exact archivistlaw01_examples.mono _
      | exact quote_Get.mono _ _
      | exact quote_Put.mono _ _
      | exact LeO.none _
      | refine LeO.ite ?_ ?_
      | refine LeO.bind ?_ (fun _ => ?_)
set_option maxHeartbeats 8000000 in
set_option maxRecDepth 100000 in
theorem archivistlaw01_QuoteBack.calls (k : Nat) (a0 : ByteArray) (a1 : ByteArray) (a2 : ByteArray) (a3 : Int) (a4 : Bool) (r : Bool) (w : World) (h : archivistlaw01_QuoteBack.f k a0 a1 a2 a3 a4 = some r) :
    Calls Try.prog 10 #[.string a0, .string a1, .string a2, .int .u16 a3, .bool a4] w fun e w' => e = .returned (.bool r) ∧ Below w.heap.size w w' := by
  have HB := Aside0.mk (Below.refl w.heap.size w)
  have H : ((archivistlaw01_examples.f k).bind fun t252 => (if t252 = true then (if a4 = true then (archivistlaw01_QuoteBack.j0 k a0 a0 a2 a3 t252) else (archivistlaw01_QuoteBack.j0 k a0 a1 a2 a3 t252)) else (none))) = some r := h
  clear h
  replace H := Option.bind_eq_some_iff.mp H
  obtain ⟨t252, A60, H⟩ := H
  replace H : (if t252 = true then (if a4 = true then (archivistlaw01_QuoteBack.j0 k a0 a0 a2 a3 t252) else (archivistlaw01_QuoteBack.j0 k a0 a1 a2 a3 t252)) else (none)) = some r := H
  have A6 := Aside0.mk A60
  clear A60
  by_cases c7 : t252 = true
  · subst c7
    have H1 : (if a4 = true then (archivistlaw01_QuoteBack.j0 k a0 a0 a2 a3 true) else (archivistlaw01_QuoteBack.j0 k a0 a1 a2 a3 true)) = some r := by rw [if_pos rfl] at H; exact H
    clear H
    have H := H1
    clear H1
    have HC8 := Aside0.mk H
    clear H
    go_enter Try.func10, Try.ntmps10
    go_upto_if 22 with (first | ((with_reducible refine gate_callee (f := 22) rfl ?_); refine goesL_ (some 19) rfl rfl Try.func22 (by kernel_rfl) rfl #[] rfl (by (try simp only [List.map_toArray, List.map_cons, List.map_nil]); first | done | rfl | (simp only [List.length_drop, List.length_take]; rfl)) ?_; (with_reducible refine (archivistlaw01_examples.calls k  true _ A6.out).mono ?_); rintro e w9 ⟨rfl, hb⟩; refine ⟨_, rfl, ?_⟩; have n0_ := Aside0.mk (below_step (by repeat (first | (with_reducible first | exact HB.out | apply below_alloc | apply pw_below_drewN | apply below_drew1) | exact HB.out)) hb); clear HB; have HB := n0_; clear n0_; (try clear hb); (try clear hb2); (try clear hk); (try clear hi)))
    (try simp only [Act.put, List.setIfInBounds_toArray, List.set_cons_zero, List.set_cons_succ])
    go_cut [1] (fun v1 wc => ∃ (kq : Nat) (x1_7 : ByteArray), v1 = .string x1_7 ∧ Aside0 (archivistlaw01_QuoteBack.j0 kq a0 x1_7 a2 a3 true = some r) ∧ Aside0 (kq ≤ k) ∧ Aside0 (Below w.heap.size w wc))
    case first =>
      have H := HC8.out
      clear HC8
      by_cases c10 : a4 = true
      · subst c10
        have H1 : (archivistlaw01_QuoteBack.j0 k a0 a0 a2 a3 true) = some r := by rw [if_pos rfl] at H; exact H
        clear H
        have H := H1
        clear H1
        have H' := Aside0.mk H
        clear H
        go_wp2
        go_meet
        case rel => exact ⟨_, (a0), (by first | rfl | (simp; done) | (simp [*]; done)), H', ⟨by first | omega | exact Nat.le_refl _⟩, ⟨by repeat (first | (with_reducible first | exact HB.out | apply below_alloc | apply pw_below_drewN | apply below_drew1) | exact HB.out)⟩⟩
      · replace c10 := Bool.eq_false_iff.mpr c10
        subst c10
        have H1 : (archivistlaw01_QuoteBack.j0 k a0 a1 a2 a3 true) = some r := by rw [if_neg (show ¬ (false = true) by decide)] at H; exact H
        clear H
        have H := H1
        clear H1
        have H' := Aside0.mk H
        clear H
        go_wp2
        go_meet
        case rel => exact ⟨_, (a1), (by first | rfl | (simp; done) | (simp [*]; done)), H', ⟨by first | omega | exact Nat.le_refl _⟩, ⟨by repeat (first | (with_reducible first | exact HB.out | apply below_alloc | apply pw_below_drewN | apply below_drew1) | exact HB.out)⟩⟩
    case rest =>
      clear HC8
      try clear c1
      try clear c2
      try clear p2
      try clear c7
      try clear c10
      obtain ⟨kq, x1_7, rfl, HA, HJ7, HB⟩ := hcut
      cases kq with
      | zero => exact absurd HA.out (by simp [archivistlaw01_QuoteBack.j0])
      | succ kj7 =>
        have H := HA.out
        clear HA
        simp only [archivistlaw01_QuoteBack.j0] at H
        replace H := Option.bind_eq_some_iff.mp H
        obtain ⟨t253, A110, H⟩ := H
        replace H : (if (t253.size : Int) < 2 then (none) else (if t253.size + a2.size ≤ 9223372036854775807 then ((quote_Get.f kj7 (t253 ++ a2)).bind fun bt254 => (if (t253.size : Int) = 0 then (none) else (if 0 ≤ (Int.tmod (wrap64 (a3)) (t253.size : Int)) then (if (Int.tmod (wrap64 (a3)) (t253.size : Int)) ≤ (t253.size : Int) then ((quote_Get.f kj7 (t253.extract 0 ((Int.tmod (wrap64 (a3)) (t253.size : Int)) : Int).toNat)).bind fun bt257 => (if true = true then (if bt254.1.toList = a0.toList then (if bt254.2.1 = (t253.size : Int) then (if bt254.2.2 = true then (if bt257.2.2 = true then (none) else ((quote_Put.f kj7 x1_7).bind fun t260 => (some ((t253.toList == t260.toList) == (a0.toList == x1_7.toList))))) else (none)) else (none)) else (none)) else (none))) else (none)) else (none)))) else (none))) = some r := H
        have A11 := Aside0.mk A110
        clear A110
        by_cases c12 : (t253.size : Int) < 2
        · rw [if_pos c12] at H
          exact absurd H (by simp)
        · rw [if_neg c12] at H
          have c12b0 : decide ((t253.size : Int) < 2) = false := decide_eq_false c12
          have c12b1 : decide (t253.size < 2) = false := decide_eq_false (by omega)
          clear c12
          by_cases c13 : t253.size + a2.size ≤ 9223372036854775807
          · rw [if_pos c13] at H
            have c13b0 := eq_true c13
            have c13b1 : decide (t253.size + a2.size ≤ 9223372036854775807) = true := decide_eq_true c13
            try have c13b2 : (9223372036854775807 < t253.size + a2.size) = False := eq_false (Nat.not_lt.2 c13)
            replace H := Option.bind_eq_some_iff.mp H
            obtain ⟨⟨t254, t255, t256⟩, A140, H⟩ := H
            replace H : (if (t253.size : Int) = 0 then (none) else (if 0 ≤ (Int.tmod (wrap64 (a3)) (t253.size : Int)) then (if (Int.tmod (wrap64 (a3)) (t253.size : Int)) ≤ (t253.size : Int) then ((quote_Get.f kj7 (t253.extract 0 ((Int.tmod (wrap64 (a3)) (t253.size : Int)) : Int).toNat)).bind fun bt257 => (if true = true then (if t254.toList = a0.toList then (if t255 = (t253.size : Int) then (if t256 = true then (if bt257.2.2 = true then (none) else ((quote_Put.f kj7 x1_7).bind fun t260 => (some ((t253.toList == t260.toList) == (a0.toList == x1_7.toList))))) else (none)) else (none)) else (none)) else (none))) else (none)) else (none))) = some r := H
            have A14 := Aside0.mk A140
            clear A140
            by_cases c15 : (t253.size : Int) = 0
            · rw [if_pos c15] at H
              exact absurd H (by simp)
            · rw [if_neg c15] at H
              have c15b0 : ((t253.size : Int) == 0) = false := beq_eq_false_iff_ne.mpr c15
              have c15b1 : ((t253.size : Int) != 0) = true := bne_iff_ne.mpr c15
              obtain ⟨ji16, hji16⟩ : ∃ j_ : Int, (Int.tmod (wrap64 (a3)) (t253.size : Int)) = j_ := ⟨_, rfl⟩
              replace H : (if 0 ≤ (ji16) then (if (ji16) ≤ (t253.size : Int) then ((quote_Get.f kj7 (t253.extract 0 ((ji16) : Int).toNat)).bind fun bt257 => (if true = true then (if t254.toList = a0.toList then (if t255 = (t253.size : Int) then (if t256 = true then (if bt257.2.2 = true then (none) else ((quote_Put.f kj7 x1_7).bind fun t260 => (some ((t253.toList == t260.toList) == (a0.toList == x1_7.toList))))) else (none)) else (none)) else (none)) else (none))) else (none)) else (none)) = some r := by first | (rw [hji16] at H; exact H) | (simp only [hji16] at H ⊢; exact H)
              (try rw [hji16] at A11)
              (try rw [hji16] at A14)
              by_cases c17 : 0 ≤ (ji16)
              · rw [if_pos c17] at H
                have c17b0 := eq_true c17
                have c17b1 : decide (0 ≤ (ji16)) = true := decide_eq_true c17
                clear c17
                by_cases c18 : (ji16) ≤ (t253.size : Int)
                · rw [if_pos c18] at H
                  have c18b0 := eq_true c18
                  have c18b1 : decide ((ji16) ≤ (t253.size : Int)) = true := decide_eq_true c18
                  clear c18
                  replace H := Option.bind_eq_some_iff.mp H
                  obtain ⟨⟨t257, t258, t259⟩, A190, H⟩ := H
                  replace H : (if true = true then (if t254.toList = a0.toList then (if t255 = (t253.size : Int) then (if t256 = true then (if t259 = true then (none) else ((quote_Put.f kj7 x1_7).bind fun t260 => (some ((t253.toList == t260.toList) == (a0.toList == x1_7.toList))))) else (none)) else (none)) else (none)) else (none)) = some r := H
                  have A19 := Aside0.mk A190
                  clear A190
                  by_cases c20 : true = true
                  · clear c20
                    have H1 : (if t254.toList = a0.toList then (if t255 = (t253.size : Int) then (if t256 = true then (if t259 = true then (none) else ((quote_Put.f kj7 x1_7).bind fun t260 => (some ((t253.toList == t260.toList) == (a0.toList == x1_7.toList))))) else (none)) else (none)) else (none)) = some r := by first | (rw [if_pos rfl] at H; exact H) | (rw [if_pos trivial] at H; exact H)
                    clear H
                    have H := H1
                    clear H1
                    by_cases c21 : t254.toList = a0.toList
                    · rw [if_pos c21] at H
                      have c21b0 : (t254.toList == a0.toList) = true := beq_iff_eq.mpr c21
                      have c21b1 : (t254.toList != a0.toList) = false := bne_eq_false_iff_eq.mpr c21
                      clear c21
                      by_cases c22 : t255 = (t253.size : Int)
                      · rw [if_pos c22] at H
                        have c22b0 : (t255 == (t253.size : Int)) = true := beq_iff_eq.mpr c22
                        have c22b1 : (t255 != (t253.size : Int)) = false := bne_eq_false_iff_eq.mpr c22
                        clear c22
                        by_cases c23 : t256 = true
                        · subst c23
                          have H1 : (if t259 = true then (none) else ((quote_Put.f kj7 x1_7).bind fun t260 => (some ((t253.toList == t260.toList) == (a0.toList == x1_7.toList))))) = some r := by first | (rw [if_pos rfl] at H; exact H) | (rw [if_pos trivial] at H; exact H)
                          clear H
                          have H := H1
                          clear H1
                          by_cases c24 : t259 = true
                          · subst c24
                            have H1 : (none) = some r := by first | (rw [if_pos rfl] at H; exact H) | (rw [if_pos trivial] at H; exact H)
                            clear H
                            have H := H1
                            clear H1
                            exact absurd H (by simp)
                          · replace c24 := Bool.eq_false_iff.mpr c24
                            subst c24
                            have H1 : ((quote_Put.f kj7 x1_7).bind fun t260 => (some ((t253.toList == t260.toList) == (a0.toList == x1_7.toList)))) = some r := by rw [if_neg (show ¬ (false = true) by decide)] at H; exact H
                            clear H
                            have H := H1
                            clear H1
                            replace H := Option.bind_eq_some_iff.mp H
                            obtain ⟨t260, A250, H⟩ := H
                            replace H : (some ((t253.toList == t260.toList) == (a0.toList == x1_7.toList))) = some r := H
                            have A25 := Aside0.mk A250
                            clear A250
                            obtain rfl := Option.some.inj H
                            go_wp2_with (first | ((with_reducible refine gate_callee (f := 21) rfl ?_); refine goesL_ (some 25) rfl rfl Try.func21 (by kernel_rfl) rfl #[.string a0] rfl (by (try simp only [List.map_toArray, List.map_cons, List.map_nil]); first | done | rfl | (simp only [List.length_drop, List.length_take]; rfl)) ?_; (with_reducible refine (quote_Put.calls kj7 a0 t253 _ A11.out).mono ?_); rintro e w26 ⟨rfl, hb⟩; refine ⟨_, rfl, ?_⟩; have n0_ := Aside0.mk (below_step (by repeat (first | (with_reducible first | exact HB.out | apply below_alloc | apply pw_below_drewN | apply below_drew1) | exact HB.out)) hb); clear HB; have HB := n0_; clear n0_; (try clear hb); (try clear hb2); (try clear hk); (try clear hi)) | ((with_reducible refine gate_callee (f := 25) rfl ?_); refine goesL_ (some 33) rfl rfl Try.func25 (by kernel_rfl) rfl #[.string (t253 ++ a2)] rfl (by (try simp only [List.map_toArray, List.map_cons, List.map_nil]); first | done | rfl | (simp only [List.length_drop, List.length_take]; rfl)) ?_; (with_reducible refine (quote_Get.calls kj7 (t253 ++ a2) t254 t255 true _ A14.out).mono ?_); rintro e w27 ⟨rfl, hb⟩; refine ⟨_, rfl, ?_⟩; have n0_ := Aside0.mk (below_step (by repeat (first | (with_reducible first | exact HB.out | apply below_alloc | apply pw_below_drewN | apply below_drew1) | exact HB.out)) hb); clear HB; have HB := n0_; clear n0_; (try clear hb); (try clear hb2); (try clear hk); (try clear hi)) | ((with_reducible refine gate_callee (f := 25) rfl ?_); refine goesL_ (some 45) rfl rfl Try.func25 (by kernel_rfl) rfl #[.string (t253.extract 0 ((ji16) : Int).toNat)] rfl (by (try simp only [List.map_toArray, List.map_cons, List.map_nil]); first | done | (simp only [hji16]; rfl) | rfl | (simp only [List.length_drop, List.length_take]; rfl)) ?_; (with_reducible refine (quote_Get.calls kj7 (t253.extract 0 ((ji16) : Int).toNat) t257 t258 false _ A19.out).mono ?_); rintro e w28 ⟨rfl, hb⟩; refine ⟨_, rfl, ?_⟩; have n0_ := Aside0.mk (below_step (by repeat (first | (with_reducible first | exact HB.out | apply below_alloc | apply pw_below_drewN | apply below_drew1) | exact HB.out)) hb); clear HB; have HB := n0_; clear n0_; (try clear hb); (try clear hb2); (try clear hk); (try clear hi)) | (go_at_call 21; (with_reducible refine (quote_Put.calls kj7 x1_7 t260 _ A25.out).mono ?_); rintro e w29 ⟨rfl, hb⟩; have n0_ := Aside0.mk (below_step (by repeat (first | (with_reducible first | exact HB.out | apply below_alloc | apply pw_below_drewN | apply below_drew1) | exact HB.out)) hb); clear HB; have HB := n0_; clear n0_; (try clear hb); (try clear hb2); (try clear hk); (try clear hi)))
                            go_ret
                            exact ⟨by first | rfl | (simp [errW_none, errW_some] <;> rfl) | (simp only [← hji16]; first | rfl | (simp [errW_none, errW_some] <;> rfl)) | (simp [*, errW_none, errW_some] <;> rfl), by repeat (first | (with_reducible first | exact HB.out | apply below_alloc | apply pw_below_drewN | apply below_drew1) | exact HB.out)⟩
                        · replace c23 := Bool.eq_false_iff.mpr c23
                          subst c23
                          have H1 : (none) = some r := by rw [if_neg (show ¬ (false = true) by decide)] at H; exact H
                          clear H
                          have H := H1
                          clear H1
                          exact absurd H (by simp)
                      · rw [if_neg c22] at H
                        exact absurd H (by simp)
                    · rw [if_neg c21] at H
                      exact absurd H (by simp)
                  · exact absurd rfl c20
                · rw [if_neg c18] at H
                  exact absurd H (by simp)
              · rw [if_neg c17] at H
                exact absurd H (by simp)
          · rw [if_neg c13] at H
            exact absurd H (by simp)
  · replace c7 := Bool.eq_false_iff.mpr c7
    subst c7
    have H1 : (none) = some r := by rw [if_neg (show ¬ (false = true) by decide)] at H; exact H
    clear H
    have H := H1
    clear H1
    exact absurd H (by simp)

/-- THE ONE PURE STATEMENT of archivistlaw01_QuoteBack: yours. -/
def archivistlaw01_QuoteBack.Pure : Prop := ∀ (a0 : ByteArray) (a1 : ByteArray) (a2 : ByteArray) (a3 : Int) (a4 : Bool), a0.size ≤ 140737488351232 → a1.size ≤ 140737488351232 → a2.size ≤ 140737488351232 → (Lit.int .u16 a3).wf = true → ∃ k, archivistlaw01_QuoteBack.f k a0 a1 a2 a3 a4 = some true
theorem archivistlaw01_QuoteBack.walk (P : archivistlaw01_QuoteBack.Pure) (a0 : ByteArray) (a1 : ByteArray) (a2 : ByteArray) (a3 : Int) (a4 : Bool) (w : World) (w0 : a0.size ≤ 140737488351232) (w1 : a1.size ≤ 140737488351232) (w2 : a2.size ≤ 140737488351232) (w3 : (Lit.int .u16 a3).wf = true) :
    Calls Try.prog 10 #[.string a0, .string a1, .string a2, .int .u16 a3, .bool a4] w fun e w' => e = .returned (.bool true) ∧ Below w.heap.size w w' := by
  obtain ⟨k, h⟩ := P a0 a1 a2 a3 a4 w0 w1 w2 w3
  refine (archivistlaw01_QuoteBack.calls k a0 a1 a2 a3 a4 true w h).mono ?_
  rintro e w' ⟨rfl, hd⟩
  exact ⟨rfl, hd⟩

/-! ### archivistlaw01_QuotePlain: function 11 -/
def archivistlaw01_QuotePlain.l0 : Nat → ByteArray → Bool → ByteArray → Int → Option (Bool)
  | 0, _, _, _, _ => none
  | k + 1, x0, x3, x4, x5 => if x5 < (x4.size : Int) then (if 0 ≤ x5 then (if (bt x4 x5) < 32 then (none) else (if (bt x4 x5) > 126 then (none) else (archivistlaw01_QuotePlain.l0 k x0 x3 x4 (wrap64 (x5 + 1))))) else (none)) else (if x3 = true then (if (x4.size : Int) ≥ (wrap64 ((x0.size : Int) + 2)) then (if (x4.size : Int) ≤ (wrap64 ((wrap64 (4 * (x0.size : Int))) + 2)) then (if 0 < (x4.size : Int) then (if (bt x4 0) = 34 then (if 0 ≤ (wrap64 ((x4.size : Int) - 1)) then (if (wrap64 ((x4.size : Int) - 1)) < (x4.size : Int) then (some ((bt x4 (wrap64 ((x4.size : Int) - 1))) == 34)) else (none)) else (none)) else (none)) else (none)) else (none)) else (none)) else (none))
def archivistlaw01_QuotePlain.f (k : Nat) (a0 : ByteArray) : Option (Bool) := (archivistlaw01_examples.f k).bind fun t261 => (if t261 = true then ((quote_Put.f k a0).bind fun t262 => (archivistlaw01_QuotePlain.l0 k a0 t261 t262 0)) else (none))
theorem archivistlaw01_QuotePlain.mono_l : ∀ k, (∀ y0 y1 y2 y3, LeO (archivistlaw01_QuotePlain.l0 k y0 y1 y2 y3) (archivistlaw01_QuotePlain.l0 (k + 1) y0 y1 y2 y3))
  | 0 => fun _ _ _ _ r h => by simp [archivistlaw01_QuotePlain.l0] at h
  | k + 1 => by
    have ih0 := archivistlaw01_QuotePlain.mono_l k
    · intro y0 y1 y2 y3
      unfold archivistlaw01_QuotePlain.l0
      repeat' first
      | (with_reducible exact ih0 _ _ _ _)
      | (with_reducible exact archivistlaw01_examples.mono _)
      | (with_reducible exact quote_Put.mono _ _)
      | (with_reducible exact LeO.refl _)
      | (with_reducible exact LeO.none _)
      | (with_reducible refine LeO.ite ?_ ?_)
      | (with_reducible refine LeO.bind ?_ (fun _ => ?_))
      | exact ih0 _ _ _ _
      | exact archivistlaw01_examples.mono _
      | exact quote_Put.mono _ _
      | exact LeO.none _
      | refine LeO.ite ?_ ?_
      | refine LeO.bind ?_ (fun _ => ?_)
theorem archivistlaw01_QuotePlain.mono : ∀ a0 k, LeO (archivistlaw01_QuotePlain.f k a0) (archivistlaw01_QuotePlain.f (k + 1) a0) := by
  intro a0 k
  have ih0 := archivistlaw01_QuotePlain.mono_l k
  unfold archivistlaw01_QuotePlain.f
  repeat' first
      | (with_reducible exact ih0 _ _ _ _)
      | (with_reducible exact archivistlaw01_examples.mono _)
      | (with_reducible exact quote_Put.mono _ _)
      | (with_reducible exact LeO.refl _)
      | (with_reducible exact LeO.none _)
      | (with_reducible refine LeO.ite ?_ ?_)
      | (with_reducible refine LeO.bind ?_ (fun _ => ?_))
      | exact ih0 _ _ _ _
      | exact archivistlaw01_examples.mono _
      | exact quote_Put.mono _ _
      | exact LeO.none _
      | refine LeO.ite ?_ ?_
      | refine LeO.bind ?_ (fun _ => ?_)
set_option maxHeartbeats 8000000 in
set_option maxRecDepth 100000 in
theorem archivistlaw01_QuotePlain.calls (k : Nat) (a0 : ByteArray) (r : Bool) (w : World) (h : archivistlaw01_QuotePlain.f k a0 = some r) :
    Calls Try.prog 11 #[.string a0] w fun e w' => e = .returned (.bool r) ∧ Below w.heap.size w w' := by
  have HB := Aside0.mk (Below.refl w.heap.size w)
  have H : ((archivistlaw01_examples.f k).bind fun t261 => (if t261 = true then ((quote_Put.f k a0).bind fun t262 => (archivistlaw01_QuotePlain.l0 k a0 t261 t262 0)) else (none))) = some r := h
  clear h
  replace H := Option.bind_eq_some_iff.mp H
  obtain ⟨t261, A20, H⟩ := H
  replace H : (if t261 = true then ((quote_Put.f k a0).bind fun t262 => (archivistlaw01_QuotePlain.l0 k a0 t261 t262 0)) else (none)) = some r := H
  have A2 := Aside0.mk A20
  clear A20
  by_cases c3 : t261 = true
  · subst c3
    have H1 : ((quote_Put.f k a0).bind fun t262 => (archivistlaw01_QuotePlain.l0 k a0 true t262 0)) = some r := by rw [if_pos rfl] at H; exact H
    clear H
    have H := H1
    clear H1
    replace H := Option.bind_eq_some_iff.mp H
    obtain ⟨t262, A40, H⟩ := H
    replace H : (archivistlaw01_QuotePlain.l0 k a0 true t262 0) = some r := H
    have A4 := Aside0.mk A40
    clear A40
    have H' := Aside0.mk H
    clear H
    go_enter Try.func11, Try.ntmps11
    go_wp2_with (first | ((with_reducible refine gate_callee (f := 22) rfl ?_); refine goesL_ (some 6) rfl rfl Try.func22 (by kernel_rfl) rfl #[] rfl (by (try simp only [List.map_toArray, List.map_cons, List.map_nil]); first | done | rfl | (simp only [List.length_drop, List.length_take]; rfl)) ?_; (with_reducible refine (archivistlaw01_examples.calls k  true _ A2.out).mono ?_); rintro e w5 ⟨rfl, hb⟩; refine ⟨_, rfl, ?_⟩; have n0_ := Aside0.mk (below_step (by repeat (first | (with_reducible first | exact HB.out | apply below_alloc | apply pw_below_drewN | apply below_drew1) | exact HB.out)) hb); clear HB; have HB := n0_; clear n0_; (try clear hb); (try clear hb2); (try clear hk); (try clear hi)) | ((with_reducible refine gate_callee (f := 21) rfl ?_); refine goesL_ (some 10) rfl rfl Try.func21 (by kernel_rfl) rfl #[.string a0] rfl (by (try simp only [List.map_toArray, List.map_cons, List.map_nil]); first | done | rfl | (simp only [List.length_drop, List.length_take]; rfl)) ?_; (with_reducible refine (quote_Put.calls k a0 t262 _ A4.out).mono ?_); rintro e w6 ⟨rfl, hb⟩; refine ⟨_, rfl, ?_⟩; have n0_ := Aside0.mk (below_step (by repeat (first | (with_reducible first | exact HB.out | apply below_alloc | apply pw_below_drewN | apply below_drew1) | exact HB.out)) hb); clear HB; have HB := n0_; clear n0_; (try clear hb); (try clear hb2); (try clear hk); (try clear hi)))
    go_loopg [5] k (fun kq v5 w' => ∃ (x5_1 : Int), v5 = .int .i64 x5_1 ∧ Aside0 (archivistlaw01_QuotePlain.l0 kq a0 true t262 x5_1 = some r) ∧ Aside0 (kq ≤ k) ∧ Aside0 (Below w.heap.size w w'))
    case atStart => exact ⟨(0), (by first | rfl | (simp; done) | (simp [*]; done)), H', ⟨Nat.le_refl _⟩, ⟨by repeat (first | (with_reducible first | exact HB.out | apply below_alloc | apply pw_below_drewN | apply below_drew1) | exact HB.out)⟩⟩
    case round =>
      clear H'
      try clear c1
      try clear c2
      try clear p2
      try clear c3
      obtain ⟨x5_1, rfl, HA, HK1, HB⟩ := hrel
      cases gk with
      | zero => exact absurd HA.out (by simp [archivistlaw01_QuotePlain.l0])
      | succ k1 =>
        have H := HA.out
        clear HA
        simp only [archivistlaw01_QuotePlain.l0] at H
        by_cases c7 : x5_1 < (t262.size : Int)
        · rw [if_pos c7] at H
          have c7b0 : decide (x5_1 < (t262.size : Int)) = true := decide_eq_true c7
          clear c7
          by_cases c8 : 0 ≤ x5_1
          · rw [if_pos c8] at H
            have c8b0 : decide (0 ≤ x5_1) = true := decide_eq_true c8
            clear c8
            by_cases c10 : (bt t262 x5_1) < 32
            · rw [if_pos c10] at H
              exact absurd H (by simp)
            · rw [if_neg c10] at H
              have c10b0 : decide ((bt t262 x5_1) < 32) = false := decide_eq_false c10
              clear c10
              by_cases c12 : (bt t262 x5_1) > 126
              · rw [if_pos c12] at H
                exact absurd H (by simp)
              · rw [if_neg c12] at H
                have c12b0 : decide (126 < (bt t262 x5_1)) = false := decide_eq_false c12
                clear c12
                have H' := Aside0.mk H
                clear H
                have p9 : 0 ≤ (x5_1 : Int) := of_decide_eq_true (by first | (with_reducible assumption) | assumption)
                have q9 : x5_1 < (t262.size : Int) := of_decide_eq_true (by first | (with_reducible assumption) | assumption)
                have hx9 := bt_at t262 x5_1
                replace p9 := eq_true p9
                replace q9 := eq_true q9
                have p11 : 0 ≤ (x5_1 : Int) := of_decide_eq_true (by first | (with_reducible assumption) | assumption)
                have q11 : x5_1 < (t262.size : Int) := of_decide_eq_true (by first | (with_reducible assumption) | assumption)
                have hx11 := bt_at t262 x5_1
                replace p11 := eq_true p11
                replace q11 := eq_true q11
                go_wp2
                go_roundg k1
                case measure => have := HK1.out; omega
                case rel => exact ⟨(wrap64 (x5_1 + 1)), (by first | rfl | (simp; done) | (simp [*]; done)), H', ⟨by have := HK1.out; omega⟩, ⟨by repeat (first | (with_reducible first | exact HB.out | apply below_alloc | apply pw_below_drewN | apply below_drew1) | exact HB.out)⟩⟩
          · rw [if_neg c8] at H
            exact absurd H (by simp)
        · rw [if_neg c7] at H
          have c7b0 : decide (x5_1 < (t262.size : Int)) = false := decide_eq_false c7
          clear c7
          by_cases c13 : true = true
          · clear c13
            have H1 : (if (t262.size : Int) ≥ (wrap64 ((a0.size : Int) + 2)) then (if (t262.size : Int) ≤ (wrap64 ((wrap64 (4 * (a0.size : Int))) + 2)) then (if 0 < (t262.size : Int) then (if (bt t262 0) = 34 then (if 0 ≤ (wrap64 ((t262.size : Int) - 1)) then (if (wrap64 ((t262.size : Int) - 1)) < (t262.size : Int) then (some ((bt t262 (wrap64 ((t262.size : Int) - 1))) == 34)) else (none)) else (none)) else (none)) else (none)) else (none)) else (none)) = some r := by first | (rw [if_pos rfl] at H; exact H) | (rw [if_pos trivial] at H; exact H)
            clear H
            have H := H1
            clear H1
            by_cases c14 : (t262.size : Int) ≥ (wrap64 ((a0.size : Int) + 2))
            · rw [if_pos c14] at H
              have c14b0 : decide ((wrap64 ((a0.size : Int) + 2)) ≤ (t262.size : Int)) = true := decide_eq_true c14
              clear c14
              by_cases c15 : (t262.size : Int) ≤ (wrap64 ((wrap64 (4 * (a0.size : Int))) + 2))
              · rw [if_pos c15] at H
                have c15b0 : decide ((t262.size : Int) ≤ (wrap64 ((wrap64 (4 * (a0.size : Int))) + 2))) = true := decide_eq_true c15
                clear c15
                by_cases c16 : 0 < (t262.size : Int)
                · rw [if_pos c16] at H
                  have c16b0 : decide (0 < (t262.size : Int)) = true := decide_eq_true c16
                  have c16b1 : decide (0 < t262.size) = true := decide_eq_true (by omega)
                  clear c16
                  by_cases c18 : (bt t262 0) = 34
                  · rw [if_pos c18] at H
                    have c18b0 : ((bt t262 0) == 34) = true := beq_iff_eq.mpr c18
                    have c18b1 : ((bt t262 0) != 34) = false := bne_eq_false_iff_eq.mpr c18
                    clear c18
                    obtain ⟨ji19, hji19⟩ : ∃ j_ : Int, (wrap64 ((t262.size : Int) - 1)) = j_ := ⟨_, rfl⟩
                    replace H : (if 0 ≤ (ji19) then (if (ji19) < (t262.size : Int) then (some ((bt t262 (ji19)) == 34)) else (none)) else (none)) = some r := by first | (rw [hji19] at H; exact H) | (simp only [hji19] at H ⊢; exact H)
                    have hji19w : (IntKind.i64.wrap ((t262.size : Int) - 1)) = ji19 := (i64_w _).trans hji19
                    by_cases c20 : 0 ≤ (ji19)
                    · rw [if_pos c20] at H
                      have c20b0 : decide (0 ≤ (ji19)) = true := decide_eq_true c20
                      clear c20
                      by_cases c21 : (ji19) < (t262.size : Int)
                      · rw [if_pos c21] at H
                        have c21b0 : decide ((ji19) < (t262.size : Int)) = true := decide_eq_true c21
                        clear c21
                        obtain rfl := Option.some.inj H
                        have p17 : 0 ≤ (0 : Int) := (by omega)
                        have q17 : 0 < t262.size := (by have : (0 : Int) < (t262.size : Int) := of_decide_eq_true (by first | (with_reducible assumption) | assumption); omega)
                        have hx17 : ∀ h : 0 < t262.size, ((t262[0]'h).toNat : Int) = bt t262 0 := bt_at t262 0
                        clear p17
                        have qi17 : (0 < (t262.size : Int)) = True := eq_true (of_decide_eq_true (by first | (with_reducible assumption) | assumption))
                        replace q17 := eq_true q17
                        have p22 : 0 ≤ ((ji19) : Int) := of_decide_eq_true (by first | (with_reducible assumption) | assumption)
                        have q22 : (ji19) < (t262.size : Int) := of_decide_eq_true (by first | (with_reducible assumption) | assumption)
                        have hx22 := bt_at t262 (ji19)
                        replace p22 := eq_true p22
                        replace q22 := eq_true q22
                        go_wp2
                        go_ret
                        exact ⟨by first | rfl | (simp [errW_none, errW_some] <;> rfl) | (simp only [← hji19]; first | rfl | (simp [errW_none, errW_some] <;> rfl)) | (simp [*, errW_none, errW_some] <;> rfl), by repeat (first | (with_reducible first | exact HB.out | apply below_alloc | apply pw_below_drewN | apply below_drew1) | exact HB.out)⟩
                      · rw [if_neg c21] at H
                        exact absurd H (by simp)
                    · rw [if_neg c20] at H
                      exact absurd H (by simp)
                  · rw [if_neg c18] at H
                    exact absurd H (by simp)
                · rw [if_neg c16] at H
                  exact absurd H (by simp)
              · rw [if_neg c15] at H
                exact absurd H (by simp)
            · rw [if_neg c14] at H
              exact absurd H (by simp)
          · exact absurd rfl c13
  · replace c3 := Bool.eq_false_iff.mpr c3
    subst c3
    have H1 : (none) = some r := by rw [if_neg (show ¬ (false = true) by decide)] at H; exact H
    clear H
    have H := H1
    clear H1
    exact absurd H (by simp)

/-- THE ONE PURE STATEMENT of archivistlaw01_QuotePlain: yours. -/
def archivistlaw01_QuotePlain.Pure : Prop := ∀ (a0 : ByteArray), a0.size ≤ 140737488351232 → ∃ k, archivistlaw01_QuotePlain.f k a0 = some true
theorem archivistlaw01_QuotePlain.walk (P : archivistlaw01_QuotePlain.Pure) (a0 : ByteArray) (w : World) (w0 : a0.size ≤ 140737488351232) :
    Calls Try.prog 11 #[.string a0] w fun e w' => e = .returned (.bool true) ∧ Below w.heap.size w w' := by
  obtain ⟨k, h⟩ := P a0 w0
  refine (archivistlaw01_QuotePlain.calls k a0 true w h).mono ?_
  rintro e w' ⟨rfl, hd⟩
  exact ⟨rfl, hd⟩

end Go.Proofs.Ytifcnblgpnfehaa.X
