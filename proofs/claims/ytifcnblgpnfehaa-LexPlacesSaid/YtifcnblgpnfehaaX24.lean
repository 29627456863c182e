-- Laid by xprint.py, a program of this session's, out of the translation.
import Derived.Test.YtifcnblgpnfehaaX0
import Derived.Test.YtifcnblgpnfehaaX17
import Derived.Test.YtifcnblgpnfehaaX18
namespace Go.Proofs.Ytifcnblgpnfehaa.X
open Go.RowKit Go.Proofs.YtifcnblgpnfehaaW.PrintWords Go.Proofs.YtifcnblgpnfehaaW.PrintLast Go.Proofs.YtifcnblgpnfehaaW.PrintMore
attribute [local go_sem] max2_int min2_int max_two min_two max_three min_three max_four min_four x_isSome   -- for this text's walks alone
set_option linter.unusedVariables false
set_option linter.unusedSimpArgs false

/-! ### archivistlaw07_LexPlaces: function 5 -/
mutual
def archivistlaw07_LexPlaces.j0 : Nat → ByteArray → Bool → Option (Bool)
  | 0, _, _ => none
  | k + 1, x0, x7 => (lex_All.f k x0).bind fun bt443 => (archivistlaw07_LexPlaces.l0 k x0 x7 bt443.1 bt443.2.1 bt443.2.2 0)
def archivistlaw07_LexPlaces.l0 : Nat → ByteArray → Bool → List (S33) → Int → Int → Int → Option (Bool)
  | 0, _, _, _, _, _, _ => none
  | k + 1, x0, x7, x8, x9, x10, x11 => if x11 < (x8.length : Int) then (if 0 ≤ x11 then (if ((rd_T33 x8 x11).f2) < 0 then (none) else (if ((rd_T33 x8 x11).f2) ≥ (x0.size : Int) then (none) else (if x11 > 0 then (if 0 ≤ (wrap64 (x11 - 1)) then (if (wrap64 (x11 - 1)) < (x8.length : Int) then (if ((rd_T33 x8 (wrap64 (x11 - 1))).f2) ≥ ((rd_T33 x8 x11).f2) then (none) else (if ((rd_T33 x8 x11).f0) < 1 then (none) else (if ((rd_T33 x8 x11).f0) > 4 then (none) else (archivistlaw07_LexPlaces.l0 k x0 x7 x8 x9 x10 (wrap64 (x11 + 1)))))) else (none)) else (none)) else (if ((rd_T33 x8 x11).f0) < 1 then (none) else (if ((rd_T33 x8 x11).f0) > 4 then (none) else (archivistlaw07_LexPlaces.l0 k x0 x7 x8 x9 x10 (wrap64 (x11 + 1)))))))) else (none)) else (if x7 = true then (if x9 ≥ 0 then (if x9 ≤ (x0.size : Int) then (if ((x10 == 0) == (x9 == (x0.size : Int))) = true then (if x10 = 0 then (some true) else (some ((x8.length : Int) == 0))) else (none)) else (none)) else (none)) else (none))
end
def archivistlaw07_LexPlaces.f (k : Nat) (a0 : ByteArray) (a1 : Bool) (l2 : List Int) : Option (Bool) := (archivistlaw07_examples.f k).bind fun t441 => (if t441 = true then (if a1 = true then ((archivistlaw07_words.f k l2).bind fun t442 => (archivistlaw07_LexPlaces.j0 k t442 t441)) else (archivistlaw07_LexPlaces.j0 k a0 t441)) else (none))
theorem archivistlaw07_LexPlaces.mono_l : ∀ k, (∀ y0 y1, LeO (archivistlaw07_LexPlaces.j0 k y0 y1) (archivistlaw07_LexPlaces.j0 (k + 1) y0 y1)) ∧ (∀ y0 y1 y2 y3 y4 y5, LeO (archivistlaw07_LexPlaces.l0 k y0 y1 y2 y3 y4 y5) (archivistlaw07_LexPlaces.l0 (k + 1) y0 y1 y2 y3 y4 y5))
  | 0 => ⟨fun _ _ r h => by simp [archivistlaw07_LexPlaces.j0] at h, fun _ _ _ _ _ _ r h => by simp [archivistlaw07_LexPlaces.l0] at h⟩
  | k + 1 => by
    obtain ⟨ih0, ih1⟩ := archivistlaw07_LexPlaces.mono_l k
    refine ⟨?_, ?_⟩
    · intro y0 y1
      unfold archivistlaw07_LexPlaces.j0
      repeat' first
      | (with_reducible exact ih0 _ _)
      | (with_reducible exact ih1 _ _ _ _ _ _)
      | (with_reducible exact archivistlaw07_examples.mono _)
      | (with_reducible exact archivistlaw07_words.mono _ _)
      | (with_reducible exact lex_All.mono _ _)
      | (with_reducible exact LeO.refl _)
      | (with_reducible exact LeO.none _)
      | (with_reducible refine LeO.ite ?_ ?_)
      | (with_reducible refine LeO.bind ?_ (fun _ => ?_))
      | exact ih0 _ _
      | exact ih1 _ _ _ _ _ _
      | exact archivistlaw07_examples.mono _
      | exact archivistlaw07_words.mono _ _
      | exact lex_All.mono _ _
      | exact LeO.none _
      | refine LeO.ite ?_ ?_
      | refine LeO.bind ?_ (fun _ => ?_)
    · intro y0 y1 y2 y3 y4 y5
      unfold archivistlaw07_LexPlaces.l0
      repeat' first
      | (with_reducible exact ih0 _ _)
      | (with_reducible exact ih1 _ _ _ _ _ _)
      | (with_reducible exact archivistlaw07_examples.mono _)
      | (with_reducible exact archivistlaw07_words.mono _ _)
      | (with_reducible exact lex_All.mono _ _)
      | (with_reducible exact LeO.refl _)
      | (with_reducible exact LeO.none _)
      | (with_reducible refine LeO.ite ?_ ?_)
      | (with_reducible refine LeO.bind ?_ (fun _ => ?_))
      | exact ih0 _ _
      | exact ih1 _ _ _ _ _ _
      | exact archivistlaw07_examples.mono _
      | exact archivistlaw07_words.mono _ _
      | exact lex_All.mono _ _
      | exact LeO.none _
      | refine LeO.ite ?_ ?_
      | refine LeO.bind ?_ (fun _ => ?_)
theorem archivistlaw07_LexPlaces.mono : ∀ a0 a1 a2 k, LeO (archivistlaw07_LexPlaces.f k a0 a1 a2) (archivistlaw07_LexPlaces.f (k + 1) a0 a1 a2) := by
  intro a0 a1 a2 k
  obtain ⟨ih0, ih1⟩ := archivistlaw07_LexPlaces.mono_l k
  unfold archivistlaw07_LexPlaces.f
  repeat' first
      | (with_reducible exact ih0 _ _)
      | (with_reducible exact ih1 _ _ _ _ _ _)
      | (with_reducible exact archivistlaw07_examples.mono _)
      | (with_reducible exact archivistlaw07_words.mono _ _)
      | (with_reducible exact lex_All.mono _ _)
      | (with_reducible exact LeO.refl _)
      | (with_reducible exact LeO.none _)
      | (with_reducible refine LeO.ite ?_ ?_)
      | (with_reducible refine LeO.bind ?_ (fun _ => ?_))
      | exact ih0 _ _
      | exact ih1 _ _ _ _ _ _
      | exact archivistlaw07_examples.mono _
      | exact archivistlaw07_words.mono _ _
      | exact lex_All.mono _ _
      | exact LeO.none _
      | refine LeO.ite ?_ ?_
      | refine LeO.bind ?_ (fun _ => ?_)
set_option maxHeartbeats 8000000 in
set_option maxRecDepth 100000 in
theorem archivistlaw07_LexPlaces.calls (k : Nat) (a0 : ByteArray) (a1 : Bool) (A2 : Option Addr) (c2 : Nat) (l2 : List Int) (r : Bool) (w : World) (hr2 : Kd.C (Kd.int .u8) w A2 l2.length l2) (hc2 : l2.length ≤ c2) (h : archivistlaw07_LexPlaces.f k a0 a1 l2 = some r) :
    Calls Try.prog 5 #[.string a0, .bool a1, .slice A2 l2.length c2] w fun e w' => e = .returned (.bool r) ∧ Below w.heap.size w w' := by
  have HR2 := Aside0.mk hr2
  have HC2 := Aside0.mk hc2
  clear hr2 hc2
  have HB := Aside0.mk (Below.refl w.heap.size w)
  have H : ((archivistlaw07_examples.f k).bind fun t441 => (if t441 = true then (if a1 = true then ((archivistlaw07_words.f k l2).bind fun t442 => (archivistlaw07_LexPlaces.j0 k t442 t441)) else (archivistlaw07_LexPlaces.j0 k a0 t441)) else (none))) = some r := h
  clear h
  replace H := Option.bind_eq_some_iff.mp H
  obtain ⟨t441, A40, H⟩ := H
  replace H : (if t441 = true then (if a1 = true then ((archivistlaw07_words.f k l2).bind fun t442 => (archivistlaw07_LexPlaces.j0 k t442 t441)) else (archivistlaw07_LexPlaces.j0 k a0 t441)) else (none)) = some r := H
  have A4 := Aside0.mk A40
  clear A40
  by_cases c5 : t441 = true
  · subst c5
    have H1 : (if a1 = true then ((archivistlaw07_words.f k l2).bind fun t442 => (archivistlaw07_LexPlaces.j0 k t442 true)) else (archivistlaw07_LexPlaces.j0 k a0 true)) = some r := by rw [if_pos rfl] at H; exact H
    clear H
    have H := H1
    clear H1
    have HC6 := Aside0.mk H
    clear H
    go_enter Try.func5, Try.ntmps5
    go_upto_if 15 with (first | (go_at_call 15; (with_reducible refine (archivistlaw07_examples.calls k  true _ A4.out).mono ?_); rintro e w7 ⟨rfl, hb⟩; have n0_ := Aside0.mk (below_step (by repeat (first | (with_reducible first | exact HB.out | apply below_alloc | apply pw_below_drewN | apply below_drew1) | exact HB.out)) hb); clear HB; have HB := n0_; clear n0_; (try clear hb); (try clear hb2); (try clear hk); (try clear hi)))
    repeat (go_quiet (first | (go_at_call 15; (with_reducible refine (archivistlaw07_examples.calls k  true _ A4.out).mono ?_); rintro e w7 ⟨rfl, hb⟩; have n0_ := Aside0.mk (below_step (by repeat (first | (with_reducible first | exact HB.out | apply below_alloc | apply pw_below_drewN | apply below_drew1) | exact HB.out)) hb); clear HB; have HB := n0_; clear n0_; (try clear hb); (try clear hb2); (try clear hk); (try clear hi))); go_upto_if 15 with (first | (go_at_call 15; (with_reducible refine (archivistlaw07_examples.calls k  true _ A4.out).mono ?_); rintro e w7 ⟨rfl, hb⟩; have n0_ := Aside0.mk (below_step (by repeat (first | (with_reducible first | exact HB.out | apply below_alloc | apply pw_below_drewN | apply below_drew1) | exact HB.out)) hb); clear HB; have HB := n0_; clear n0_; (try clear hb); (try clear hb2); (try clear hk); (try clear hi))))
    (try simp only [Act.put, List.setIfInBounds_toArray, List.set_cons_zero, List.set_cons_succ])
    go_cut [0] (fun v0 wc => ∃ (kq : Nat) (x0_5 : ByteArray), v0 = .string x0_5 ∧ Aside0 (archivistlaw07_LexPlaces.j0 kq x0_5 true = some r) ∧ Aside0 (kq ≤ k) ∧ Aside0 (Below w.heap.size w wc))
    case first =>
      have H := HC6.out
      clear HC6
      by_cases c8 : a1 = true
      · subst c8
        have H1 : ((archivistlaw07_words.f k l2).bind fun t442 => (archivistlaw07_LexPlaces.j0 k t442 true)) = some r := by rw [if_pos rfl] at H; exact H
        clear H
        have H := H1
        clear H1
        replace H := Option.bind_eq_some_iff.mp H
        obtain ⟨t442, A90, H⟩ := H
        replace H : (archivistlaw07_LexPlaces.j0 k t442 true) = some r := H
        have A9 := Aside0.mk A90
        clear A90
        have H' := Aside0.mk H
        clear H
        go_wp2_with (first | (go_at_call 16; (with_reducible refine (archivistlaw07_words.calls k _ _ l2 t442 _ ?side1 ?side2 A9.out).mono ?_); (case side1 => repeat (first | exact (Kd.C_below HR2.out HB.out) | (with_reducible refine Kd.C_alloc ?_ _) | (with_reducible refine Kd.C_drewN ?_ _) | (with_reducible refine Kd.C_drew ?_))); (case side2 => exact HC2.out); rintro e w10 ⟨rfl, hb⟩; have n0_ := Aside0.mk (below_step (by repeat (first | (with_reducible first | exact HB.out | apply below_alloc | apply pw_below_drewN | apply below_drew1) | exact HB.out)) hb); clear HB; have HB := n0_; clear n0_; (try clear hb); (try clear hb2); (try clear hk); (try clear hi)))
        repeat (go_quiet (first | (go_at_call 16; (with_reducible refine (archivistlaw07_words.calls k _ _ l2 t442 _ ?side1 ?side2 A9.out).mono ?_); (case side1 => repeat (first | exact (Kd.C_below HR2.out HB.out) | (with_reducible refine Kd.C_alloc ?_ _) | (with_reducible refine Kd.C_drewN ?_ _) | (with_reducible refine Kd.C_drew ?_))); (case side2 => exact HC2.out); rintro e w10 ⟨rfl, hb⟩; have n0_ := Aside0.mk (below_step (by repeat (first | (with_reducible first | exact HB.out | apply below_alloc | apply pw_below_drewN | apply below_drew1) | exact HB.out)) hb); clear HB; have HB := n0_; clear n0_; (try clear hb); (try clear hb2); (try clear hk); (try clear hi))); try go_wp2_with (first | (go_at_call 16; (with_reducible refine (archivistlaw07_words.calls k _ _ l2 t442 _ ?side1 ?side2 A9.out).mono ?_); (case side1 => repeat (first | exact (Kd.C_below HR2.out HB.out) | (with_reducible refine Kd.C_alloc ?_ _) | (with_reducible refine Kd.C_drewN ?_ _) | (with_reducible refine Kd.C_drew ?_))); (case side2 => exact HC2.out); rintro e w10 ⟨rfl, hb⟩; have n0_ := Aside0.mk (below_step (by repeat (first | (with_reducible first | exact HB.out | apply below_alloc | apply pw_below_drewN | apply below_drew1) | exact HB.out)) hb); clear HB; have HB := n0_; clear n0_; (try clear hb); (try clear hb2); (try clear hk); (try clear hi))))
        go_meet
        case rel => exact ⟨_, (t442), (by first | rfl | (simp; done) | (simp [*]; done)), H', ⟨by first | omega | exact Nat.le_refl _⟩, ⟨by repeat (first | (with_reducible first | exact HB.out | apply below_alloc | apply pw_below_drewN | apply below_drew1) | exact HB.out)⟩⟩
      · replace c8 := Bool.eq_false_iff.mpr c8
        subst c8
        have H1 : (archivistlaw07_LexPlaces.j0 k a0 true) = some r := by rw [if_neg (show ¬ (false = true) by decide)] at H; exact H
        clear H
        have H := H1
        clear H1
        have H' := Aside0.mk H
        clear H
        go_wp2
        repeat (go_quiet (fail); try go_wp2)
        go_meet
        case rel => exact ⟨_, (a0), (by first | rfl | (simp; done) | (simp [*]; done)), H', ⟨by first | omega | exact Nat.le_refl _⟩, ⟨by repeat (first | (with_reducible first | exact HB.out | apply below_alloc | apply pw_below_drewN | apply below_drew1) | exact HB.out)⟩⟩
    case rest =>
      clear HC6
      try clear c2
      try clear p2
      try clear c5
      try clear c8
      obtain ⟨kq, x0_5, rfl, HA, HJ5, HB⟩ := hcut
      cases kq with
      | zero => exact absurd HA.out (by simp [archivistlaw07_LexPlaces.j0])
      | succ kj5 =>
        have H := HA.out
        clear HA
        simp only [archivistlaw07_LexPlaces.j0] at H
        replace H := Option.bind_eq_some_iff.mp H
        obtain ⟨⟨t443, t444, t445⟩, A110, H⟩ := H
        replace H : (archivistlaw07_LexPlaces.l0 kj5 x0_5 true t443 t444 t445 0) = some r := H
        have A11 := Aside0.mk A110
        clear A110
        have H' := Aside0.mk H
        clear H
        go_wp2_with (first | (go_at_call 17; (with_reducible refine (lex_All.calls kj5 x0_5 t443 t444 t445 _ A11.out).mono ?_); rintro e w12 ⟨v446, rfl, ho0, hb⟩; have n0_ := Aside0.mk (Kd.R_lower ho0 (below_size (by repeat (first | (with_reducible first | exact HB.out | apply below_alloc | apply pw_below_drewN | apply below_drew1) | exact HB.out)))); have n1_ := Aside0.mk (below_step (by repeat (first | (with_reducible first | exact HB.out | apply below_alloc | apply pw_below_drewN | apply below_drew1) | exact HB.out)) hb); clear HB; have HO447 := n0_; have HB := n1_; clear n0_ n1_; (try clear hb); (try clear hb2); (try clear hk); (try clear hi); (try clear ho0)))
        repeat (go_quiet (first | (go_at_call 17; (with_reducible refine (lex_All.calls kj5 x0_5 t443 t444 t445 _ A11.out).mono ?_); rintro e w12 ⟨v446, rfl, ho0, hb⟩; have n0_ := Aside0.mk (Kd.R_lower ho0 (below_size (by repeat (first | (with_reducible first | exact HB.out | apply below_alloc | apply pw_below_drewN | apply below_drew1) | exact HB.out)))); have n1_ := Aside0.mk (below_step (by repeat (first | (with_reducible first | exact HB.out | apply below_alloc | apply pw_below_drewN | apply below_drew1) | exact HB.out)) hb); clear HB; have HO447 := n0_; have HB := n1_; clear n0_ n1_; (try clear hb); (try clear hb2); (try clear hk); (try clear hi); (try clear ho0))); try go_wp2_with (first | (go_at_call 17; (with_reducible refine (lex_All.calls kj5 x0_5 t443 t444 t445 _ A11.out).mono ?_); rintro e w12 ⟨v446, rfl, ho0, hb⟩; have n0_ := Aside0.mk (Kd.R_lower ho0 (below_size (by repeat (first | (with_reducible first | exact HB.out | apply below_alloc | apply pw_below_drewN | apply below_drew1) | exact HB.out)))); have n1_ := Aside0.mk (below_step (by repeat (first | (with_reducible first | exact HB.out | apply below_alloc | apply pw_below_drewN | apply below_drew1) | exact HB.out)) hb); clear HB; have HO447 := n0_; have HB := n1_; clear n0_ n1_; (try clear hb); (try clear hb2); (try clear hk); (try clear hi); (try clear ho0))))
        go_loopg [11] kj5 (fun kq v11 w' => ∃ (x11_2 : Int), v11 = .int .i64 x11_2 ∧ Aside0 (archivistlaw07_LexPlaces.l0 kq x0_5 true t443 t444 t445 x11_2 = some r) ∧ Aside0 (kq ≤ kj5) ∧ Aside0 (Kd.R k33 33 w' w.heap.size (fun _ => True) v446 t443) ∧ Aside0 (Below w.heap.size w w'))
        case atStart => exact ⟨(0), (by first | rfl | (simp; done) | (simp [*]; done)), H', ⟨Nat.le_refl _⟩, ⟨by (with_reducible repeat (first | apply Kd.R_alloc | apply Kd.R_drewN | apply Kd.R_drew)); exact HO447.out⟩, ⟨by repeat (first | (with_reducible first | exact HB.out | apply below_alloc | apply pw_below_drewN | apply below_drew1) | exact HB.out)⟩⟩
        case round =>
          clear H'
          try clear c2
          try clear p2
          try clear c5
          try clear c8
          try clear p2
          obtain ⟨x11_2, rfl, HA, HK2, HO_8, HB⟩ := hrel
          cases gk with
          | zero => exact absurd HA.out (by simp [archivistlaw07_LexPlaces.l0])
          | succ k2 =>
            have H := HA.out
            clear HA
            simp only [archivistlaw07_LexPlaces.l0] at H
            by_cases c13 : x11_2 < (t443.length : Int)
            · rw [if_pos c13] at H
              have c13b0 : decide (x11_2 < (t443.length : Int)) = true := decide_eq_true c13
              clear c13
              by_cases c14 : 0 ≤ x11_2
              · rw [if_pos c14] at H
                have c14b0 : decide (0 ≤ x11_2) = true := decide_eq_true c14
                clear c14
                by_cases c15 : ((rd_T33 t443 x11_2).f2) < 0
                · rw [if_pos c15] at H
                  exact absurd H (by simp)
                · rw [if_neg c15] at H
                  have c15b0 : decide (((rd_T33 t443 x11_2).f2) < 0) = false := decide_eq_false c15
                  clear c15
                  by_cases c16 : ((rd_T33 t443 x11_2).f2) ≥ (x0_5.size : Int)
                  · rw [if_pos c16] at H
                    exact absurd H (by simp)
                  · rw [if_neg c16] at H
                    have c16b0 : decide ((x0_5.size : Int) ≤ ((rd_T33 t443 x11_2).f2)) = false := decide_eq_false c16
                    clear c16
                    by_cases c17 : x11_2 > 0
                    · rw [if_pos c17] at H
                      have c17b0 : decide (0 < x11_2) = true := decide_eq_true c17
                      clear c17
                      obtain ⟨ji18, hji18⟩ : ∃ j_ : Int, (wrap64 (x11_2 - 1)) = j_ := ⟨_, rfl⟩
                      replace H : (if 0 ≤ (ji18) then (if (ji18) < (t443.length : Int) then (if ((rd_T33 t443 (ji18)).f2) ≥ ((rd_T33 t443 x11_2).f2) then (none) else (if ((rd_T33 t443 x11_2).f0) < 1 then (none) else (if ((rd_T33 t443 x11_2).f0) > 4 then (none) else (archivistlaw07_LexPlaces.l0 k2 x0_5 true t443 t444 t445 (wrap64 (x11_2 + 1)))))) else (none)) else (none)) = some r := by first | (rw [hji18] at H; exact H) | (simp only [hji18] at H ⊢; exact H)
                      have hji18w : (IntKind.i64.wrap (x11_2 - 1)) = ji18 := (i64_w _).trans hji18
                      by_cases c19 : 0 ≤ (ji18)
                      · rw [if_pos c19] at H
                        have c19b0 : decide (0 ≤ (ji18)) = true := decide_eq_true c19
                        clear c19
                        by_cases c20 : (ji18) < (t443.length : Int)
                        · rw [if_pos c20] at H
                          have c20b0 : decide ((ji18) < (t443.length : Int)) = true := decide_eq_true c20
                          clear c20
                          by_cases c21 : ((rd_T33 t443 (ji18)).f2) ≥ ((rd_T33 t443 x11_2).f2)
                          · rw [if_pos c21] at H
                            exact absurd H (by simp)
                          · rw [if_neg c21] at H
                            have c21b0 : decide (((rd_T33 t443 x11_2).f2) ≤ ((rd_T33 t443 (ji18)).f2)) = false := decide_eq_false c21
                            clear c21
                            by_cases c22 : ((rd_T33 t443 x11_2).f0) < 1
                            · rw [if_pos c22] at H
                              exact absurd H (by simp)
                            · rw [if_neg c22] at H
                              have c22b0 : decide (((rd_T33 t443 x11_2).f0) < 1) = false := decide_eq_false c22
                              clear c22
                              by_cases c23 : ((rd_T33 t443 x11_2).f0) > 4
                              · rw [if_pos c23] at H
                                exact absurd H (by simp)
                              · rw [if_neg c23] at H
                                have c23b0 : decide (4 < ((rd_T33 t443 x11_2).f0)) = false := decide_eq_false c23
                                clear c23
                                have H' := Aside0.mk H
                                clear H
                                obtain ⟨Ao24, co24, eo24⟩ := Kd.R_slice HO_8.out
                                subst eo24
                                have p448 : 0 ≤ (x11_2 : Int) := of_decide_eq_true (by first | (with_reducible assumption) | assumption)
                                have q448 : x11_2 < (t443.length : Int) := of_decide_eq_true (by first | (with_reducible assumption) | assumption)
                                obtain ⟨ad448, e448, hx448_0, hx448_1, hx448_2⟩ := at_T33 (Kd.R_reads' HO_8.out).2.2 x11_2 p448 q448
                                cases e448
                                replace p448 := eq_true p448
                                replace q448 := eq_true q448
                                have p449 : 0 ≤ (x11_2 : Int) := of_decide_eq_true (by first | (with_reducible assumption) | assumption)
                                have q449 : x11_2 < (t443.length : Int) := of_decide_eq_true (by first | (with_reducible assumption) | assumption)
                                obtain ⟨ad449, e449, hx449_0, hx449_1, hx449_2⟩ := at_T33 (Kd.R_reads' HO_8.out).2.2 x11_2 p449 q449
                                obtain rfl : ad448 = ad449 := (by injection e449)
                                replace p449 := eq_true p449
                                replace q449 := eq_true q449
                                have p450 : 0 ≤ ((ji18) : Int) := of_decide_eq_true (by first | (with_reducible assumption) | assumption)
                                have q450 : (ji18) < (t443.length : Int) := of_decide_eq_true (by first | (with_reducible assumption) | assumption)
                                obtain ⟨ad450, e450, hx450_0, hx450_1, hx450_2⟩ := at_T33 (Kd.R_reads' HO_8.out).2.2 (ji18) p450 q450
                                obtain rfl : ad448 = ad450 := (by injection e450)
                                replace p450 := eq_true p450
                                replace q450 := eq_true q450
                                have p451 : 0 ≤ (x11_2 : Int) := of_decide_eq_true (by first | (with_reducible assumption) | assumption)
                                have q451 : x11_2 < (t443.length : Int) := of_decide_eq_true (by first | (with_reducible assumption) | assumption)
                                obtain ⟨ad451, e451, hx451_0, hx451_1, hx451_2⟩ := at_T33 (Kd.R_reads' HO_8.out).2.2 x11_2 p451 q451
                                obtain rfl : ad448 = ad451 := (by injection e451)
                                replace p451 := eq_true p451
                                replace q451 := eq_true q451
                                have p452 : 0 ≤ (x11_2 : Int) := of_decide_eq_true (by first | (with_reducible assumption) | assumption)
                                have q452 : x11_2 < (t443.length : Int) := of_decide_eq_true (by first | (with_reducible assumption) | assumption)
                                obtain ⟨ad452, e452, hx452_0, hx452_1, hx452_2⟩ := at_T33 (Kd.R_reads' HO_8.out).2.2 x11_2 p452 q452
                                obtain rfl : ad448 = ad452 := (by injection e452)
                                replace p452 := eq_true p452
                                replace q452 := eq_true q452
                                have p453 : 0 ≤ (x11_2 : Int) := of_decide_eq_true (by first | (with_reducible assumption) | assumption)
                                have q453 : x11_2 < (t443.length : Int) := of_decide_eq_true (by first | (with_reducible assumption) | assumption)
                                obtain ⟨ad453, e453, hx453_0, hx453_1, hx453_2⟩ := at_T33 (Kd.R_reads' HO_8.out).2.2 x11_2 p453 q453
                                obtain rfl : ad448 = ad453 := (by injection e453)
                                replace p453 := eq_true p453
                                replace q453 := eq_true q453
                                go_wp2
                                repeat (go_quiet (fail); try go_wp2)
                                go_roundg k2
                                case measure => have := HJ5.out; have := HK2.out; omega
                                case rel => exact ⟨(wrap64 (x11_2 + 1)), (by first | rfl | (simp; done) | (simp [*]; done)), H', ⟨by have := HJ5.out; have := HK2.out; omega⟩, ⟨by (with_reducible repeat (first | apply Kd.R_alloc | apply Kd.R_drewN | apply Kd.R_drew)); exact HO_8.out⟩, ⟨by repeat (first | (with_reducible first | exact HB.out | apply below_alloc | apply pw_below_drewN | apply below_drew1) | exact HB.out)⟩⟩
                        · rw [if_neg c20] at H
                          exact absurd H (by simp)
                      · rw [if_neg c19] at H
                        exact absurd H (by simp)
                    · rw [if_neg c17] at H
                      have c17b0 : decide (0 < x11_2) = false := decide_eq_false c17
                      clear c17
                      by_cases c25 : ((rd_T33 t443 x11_2).f0) < 1
                      · rw [if_pos c25] at H
                        exact absurd H (by simp)
                      · rw [if_neg c25] at H
                        have c25b0 : decide (((rd_T33 t443 x11_2).f0) < 1) = false := decide_eq_false c25
                        clear c25
                        by_cases c26 : ((rd_T33 t443 x11_2).f0) > 4
                        · rw [if_pos c26] at H
                          exact absurd H (by simp)
                        · rw [if_neg c26] at H
                          have c26b0 : decide (4 < ((rd_T33 t443 x11_2).f0)) = false := decide_eq_false c26
                          clear c26
                          have H' := Aside0.mk H
                          clear H
                          obtain ⟨Ao27, co27, eo27⟩ := Kd.R_slice HO_8.out
                          subst eo27
                          have p448 : 0 ≤ (x11_2 : Int) := of_decide_eq_true (by first | (with_reducible assumption) | assumption)
                          have q448 : x11_2 < (t443.length : Int) := of_decide_eq_true (by first | (with_reducible assumption) | assumption)
                          obtain ⟨ad448, e448, hx448_0, hx448_1, hx448_2⟩ := at_T33 (Kd.R_reads' HO_8.out).2.2 x11_2 p448 q448
                          cases e448
                          replace p448 := eq_true p448
                          replace q448 := eq_true q448
                          have p449 : 0 ≤ (x11_2 : Int) := of_decide_eq_true (by first | (with_reducible assumption) | assumption)
                          have q449 : x11_2 < (t443.length : Int) := of_decide_eq_true (by first | (with_reducible assumption) | assumption)
                          obtain ⟨ad449, e449, hx449_0, hx449_1, hx449_2⟩ := at_T33 (Kd.R_reads' HO_8.out).2.2 x11_2 p449 q449
                          obtain rfl : ad448 = ad449 := (by injection e449)
                          replace p449 := eq_true p449
                          replace q449 := eq_true q449
                          have p454 : 0 ≤ (x11_2 : Int) := of_decide_eq_true (by first | (with_reducible assumption) | assumption)
                          have q454 : x11_2 < (t443.length : Int) := of_decide_eq_true (by first | (with_reducible assumption) | assumption)
                          obtain ⟨ad454, e454, hx454_0, hx454_1, hx454_2⟩ := at_T33 (Kd.R_reads' HO_8.out).2.2 x11_2 p454 q454
                          obtain rfl : ad448 = ad454 := (by injection e454)
                          replace p454 := eq_true p454
                          replace q454 := eq_true q454
                          have p455 : 0 ≤ (x11_2 : Int) := of_decide_eq_true (by first | (with_reducible assumption) | assumption)
                          have q455 : x11_2 < (t443.length : Int) := of_decide_eq_true (by first | (with_reducible assumption) | assumption)
                          obtain ⟨ad455, e455, hx455_0, hx455_1, hx455_2⟩ := at_T33 (Kd.R_reads' HO_8.out).2.2 x11_2 p455 q455
                          obtain rfl : ad448 = ad455 := (by injection e455)
                          replace p455 := eq_true p455
                          replace q455 := eq_true q455
                          go_wp2
                          repeat (go_quiet (fail); try go_wp2)
                          go_roundg k2
                          case measure => have := HJ5.out; have := HK2.out; omega
                          case rel => exact ⟨(wrap64 (x11_2 + 1)), (by first | rfl | (simp; done) | (simp [*]; done)), H', ⟨by have := HJ5.out; have := HK2.out; omega⟩, ⟨by (with_reducible repeat (first | apply Kd.R_alloc | apply Kd.R_drewN | apply Kd.R_drew)); exact HO_8.out⟩, ⟨by repeat (first | (with_reducible first | exact HB.out | apply below_alloc | apply pw_below_drewN | apply below_drew1) | exact HB.out)⟩⟩
              · rw [if_neg c14] at H
                exact absurd H (by simp)
            · rw [if_neg c13] at H
              have c13b0 : decide (x11_2 < (t443.length : Int)) = false := decide_eq_false c13
              clear c13
              by_cases c28 : true = true
              · clear c28
                have H1 : (if t444 ≥ 0 then (if t444 ≤ (x0_5.size : Int) then (if ((t445 == 0) == (t444 == (x0_5.size : Int))) = true then (if t445 = 0 then (some true) else (some ((t443.length : Int) == 0))) else (none)) else (none)) else (none)) = some r := by first | (rw [if_pos rfl] at H; exact H) | (rw [if_pos trivial] at H; exact H)
                clear H
                have H := H1
                clear H1
                by_cases c29 : t444 ≥ 0
                · rw [if_pos c29] at H
                  have c29b0 : decide (0 ≤ t444) = true := decide_eq_true c29
                  clear c29
                  by_cases c30 : t444 ≤ (x0_5.size : Int)
                  · rw [if_pos c30] at H
                    have c30b0 : decide (t444 ≤ (x0_5.size : Int)) = true := decide_eq_true c30
                    clear c30
                    by_cases c31 : ((t445 == 0) == (t444 == (x0_5.size : Int))) = true
                    · rw [if_pos c31] at H
                      have c31b0 : ((t445 == 0) == (t444 == (x0_5.size : Int))) = true := c31
                      (try (have c31b1 : decide ((t445 == 0) = (t444 == (x0_5.size : Int))) = true := by simpa using c31))
                      (try (have c31b2 : ((t445 == 0) == (t444 == (x0_5.size : Int))) = true := by simpa using c31))
                      clear c31
                      by_cases c32 : t445 = 0
                      · rw [if_pos c32] at H
                        have c32b0 : (t445 == 0) = true := beq_iff_eq.mpr c32
                        (try (have c31c : (t444 == (x0_5.size : Int)) = true := by have hh := c31b0; rw [c32b0] at hh; simpa using hh))
                        have c32b1 : (t445 != 0) = false := bne_eq_false_iff_eq.mpr c32
                        clear c32
                        obtain rfl := Option.some.inj H
                        obtain ⟨Ao33, co33, eo33⟩ := Kd.R_slice HO_8.out
                        subst eo33
                        go_wp2
                        repeat (go_quiet (fail); try go_wp2)
                        go_ret
                        exact ⟨by first | rfl | (simp [errW_none, errW_some] <;> rfl) | (simp [*, errW_none, errW_some] <;> rfl), by repeat (first | (with_reducible first | exact HB.out | apply below_alloc | apply pw_below_drewN | apply below_drew1) | exact HB.out)⟩
                      · rw [if_neg c32] at H
                        have c32b0 : (t445 == 0) = false := beq_eq_false_iff_ne.mpr c32
                        (try (have c31c : (t444 == (x0_5.size : Int)) = false := by have hh := c31b0; rw [c32b0] at hh; simpa using hh))
                        have c32b1 : (t445 != 0) = true := bne_iff_ne.mpr c32
                        obtain rfl := Option.some.inj H
                        obtain ⟨Ao34, co34, eo34⟩ := Kd.R_slice HO_8.out
                        subst eo34
                        go_wp2
                        repeat (go_quiet (fail); try go_wp2)
                        go_ret
                        exact ⟨by first | rfl | (simp [errW_none, errW_some] <;> rfl) | (simp [*, errW_none, errW_some] <;> rfl), by repeat (first | (with_reducible first | exact HB.out | apply below_alloc | apply pw_below_drewN | apply below_drew1) | exact HB.out)⟩
                    · rw [if_neg c31] at H
                      exact absurd H (by simp)
                  · rw [if_neg c30] at H
                    exact absurd H (by simp)
                · rw [if_neg c29] at H
                  exact absurd H (by simp)
              · exact absurd rfl c28
  · replace c5 := Bool.eq_false_iff.mpr c5
    subst c5
    have H1 : (none) = some r := by rw [if_neg (show ¬ (false = true) by decide)] at H; exact H
    clear H
    have H := H1
    clear H1
    exact absurd H (by simp)

/-- THE ONE PURE STATEMENT of archivistlaw07_LexPlaces: yours. -/
def archivistlaw07_LexPlaces.Pure : Prop := ∀ (a0 : ByteArray) (a1 : Bool) (l2 : List Int), a0.size ≤ 140737488351232 → l2.length ≤ maxLen → l2.length * 1 ≤ 140737488351232 → (∀ x ∈ l2, (Lit.int .u8 x).wf = true) → ∃ k, archivistlaw07_LexPlaces.f k a0 a1 l2 = some true
theorem archivistlaw07_LexPlaces.walk (P : archivistlaw07_LexPlaces.Pure) (a0 : ByteArray) (a1 : Bool) (a2 : Option Addr) (len2 cap2 : Nat) (z2 : List Int) (w : World) (w0 : a0.size ≤ 140737488351232) (w2 : (a2 = none ∧ len2 = 0 ∧ cap2 = 0 ∧ z2 = []) ∨ ∃ x, a2 = some x ∧ len2 ≤ cap2 ∧ cap2 ≤ maxLen ∧ z2.length = cap2 ∧ (∀ i, i < z2.length → w.cell? (x.add i) = some (.int .u8 (z2.getD i 0))) ∧ ∀ n ∈ z2, (Lit.int .u8 n).wf = true) (y2 : len2 * 1 ≤ 140737488351232) :
    Calls Try.prog 5 #[.string a0, .bool a1, .slice a2 len2 cap2] w fun e w' => e = .returned (.bool true) ∧ Below w.heap.size w w' := by
  obtain ⟨l2, rfl, hr2, hm2, hw2, hc2⟩ := ReadsInt.ofRowC w2
  obtain ⟨k, h⟩ := P a0 a1 l2 w0 hm2 y2 hw2
  refine (archivistlaw07_LexPlaces.calls k a0 a1 _ _ l2 true w (Kd.C_of_reads (d := (0 : Int)) (h1 := fun _ => rfl) hr2) hc2 h).mono ?_
  rintro e w' ⟨rfl, hd⟩
  exact ⟨rfl, hd⟩

end Go.Proofs.Ytifcnblgpnfehaa.X
