-- Laid by xprint.py, a program of this session's, out of the translation.
import Derived.Test.YtifcnblgpnfehaaX0
import Derived.Test.YtifcnblgpnfehaaX17
import Derived.Test.YtifcnblgpnfehaaX18
namespace Go.Proofs.Ytifcnblgpnfehaa.X
open Go.RowKit Go.Proofs.YtifcnblgpnfehaaW.PrintWords Go.Proofs.YtifcnblgpnfehaaW.PrintLast Go.Proofs.YtifcnblgpnfehaaW.PrintMore
attribute [local go_sem] max2_int min2_int max_two min_two max_three min_three max_four min_four x_isSome   -- for this text's walks alone
set_option linter.unusedVariables false
set_option linter.unusedSimpArgs false

/-! ### archivistlaw07_LexSpaces: function 4 -/
mutual
def archivistlaw07_LexSpaces.l0 : Nat → Bool → ByteArray → List (S33) → Int → Int → Int → ByteArray → Int → Option (Bool)
  | 0, _, _, _, _, _, _, _, _ => none
  | k + 1, x5, x6, x7, x8, x9, x10, x11, x12 => if x12 < x10 then (if 0 ≤ (Int.tmod x12 3) then (if (Int.tmod x12 3) < 3 then ((some (([bt (⟨#[32, 9, 10]⟩ : ByteArray) (Int.tmod x12 3)] : List Int) : List Int)).bind fun y427 => (if x11.size + (strOfNums y427).size ≤ 9223372036854775807 then (archivistlaw07_LexSpaces.l0 k x5 x6 x7 x8 x9 x10 (x11 ++ (strOfNums y427)) (wrap64 (x12 + 1))) else (none))) else (none)) else (none)) else (if x11.size + x6.size ≤ 9223372036854775807 then (if (x11 ++ x6).size + x11.size ≤ 9223372036854775807 then ((lex_All.f k ((x11 ++ x6) ++ x11)).bind fun bt430 => (if bt430.2.2 = x9 then (if (x7.length : Int) = (bt430.1.length : Int) then (if x9 = 0 then (archivistlaw07_LexSpaces.j1 k x5 x7 x10 bt430.1 (bt430.2.1 != (wrap64 ((x6.size : Int) + (wrap64 (2 * x10)))))) else (if bt430.2.1 = (wrap64 (x8 + x10)) then (archivistlaw07_LexSpaces.j1 k x5 x7 x10 bt430.1 false) else (archivistlaw07_LexSpaces.j1 k x5 x7 x10 bt430.1 true))) else (archivistlaw07_LexSpaces.j1 k x5 x7 x10 bt430.1 true)) else (archivistlaw07_LexSpaces.j1 k x5 x7 x10 bt430.1 true))) else (none)) else (none))
def archivistlaw07_LexSpaces.j1 : Nat → Bool → List (S33) → Int → List (S33) → Bool → Option (Bool)
  | 0, _, _, _, _, _ => none
  | k + 1, x5, x7, x10, x13, x86 => if x86 = true then (none) else (archivistlaw07_LexSpaces.l1 k x5 x7 x10 x13 0)
def archivistlaw07_LexSpaces.l1 : Nat → Bool → List (S33) → Int → List (S33) → Int → Option (Bool)
  | 0, _, _, _, _, _ => none
  | k + 1, x5, x7, x10, x13, x16 => if x16 < (x7.length : Int) then (if 0 ≤ x16 then (if x16 < (x13.length : Int) then (if ((rd_T33 x7 x16).f0) = ((rd_T33 x13 x16).f0) then (if ((rd_T33 x7 x16).f1).toList = ((rd_T33 x13 x16).f1).toList then (if (wrap64 (((rd_T33 x7 x16).f2) + x10)) = ((rd_T33 x13 x16).f2) then (archivistlaw07_LexSpaces.l1 k x5 x7 x10 x13 (wrap64 (x16 + 1))) else (none)) else (none)) else (none)) else (none)) else (none)) else (some x5)
end
def archivistlaw07_LexSpaces.f (k : Nat) (l0 : List Int) (a1 : Int) : Option (Bool) := (archivistlaw07_examples.f k).bind fun t420 => (if t420 = true then ((archivistlaw07_words.f k l0).bind fun t421 => ((lex_All.f k t421).bind fun bt422 => (archivistlaw07_LexSpaces.l0 k t420 t421 bt422.1 bt422.2.1 bt422.2.2 (wrap64 (Int.tmod a1 20)) (⟨#[]⟩ : ByteArray) 0))) else (none))
theorem archivistlaw07_LexSpaces.mono_l : ∀ k, (∀ y0 y1 y2 y3 y4 y5 y6 y7, LeO (archivistlaw07_LexSpaces.l0 k y0 y1 y2 y3 y4 y5 y6 y7) (archivistlaw07_LexSpaces.l0 (k + 1) y0 y1 y2 y3 y4 y5 y6 y7)) ∧ (∀ y0 y1 y2 y3 y4, LeO (archivistlaw07_LexSpaces.j1 k y0 y1 y2 y3 y4) (archivistlaw07_LexSpaces.j1 (k + 1) y0 y1 y2 y3 y4)) ∧ (∀ y0 y1 y2 y3 y4, LeO (archivistlaw07_LexSpaces.l1 k y0 y1 y2 y3 y4) (archivistlaw07_LexSpaces.l1 (k + 1) y0 y1 y2 y3 y4))
  | 0 => ⟨fun _ _ _ _ _ _ _ _ r h => by simp [archivistlaw07_LexSpaces.l0] at h, fun _ _ _ _ _ r h => by simp [archivistlaw07_LexSpaces.j1] at h, fun _ _ _ _ _ r h => by simp [archivistlaw07_LexSpaces.l1] at h⟩
  | k + 1 => by
    obtain ⟨ih0, ih1, ih2⟩ := archivistlaw07_LexSpaces.mono_l k
    refine ⟨?_, ?_, ?_⟩
    · intro y0 y1 y2 y3 y4 y5 y6 y7
      unfold archivistlaw07_LexSpaces.l0
      repeat' first
      | (with_reducible exact ih0 _ _ _ _ _ _ _ _)
      | (with_reducible exact ih1 _ _ _ _ _)
      | (with_reducible exact ih2 _ _ _ _ _)
      | (with_reducible exact archivistlaw07_examples.mono _)
      | (with_reducible exact archivistlaw07_words.mono _ _)
      | (with_reducible exact lex_All.mono _ _)
      | (with_reducible exact LeO.refl _)
      | (with_reducible exact LeO.none _)
      | (with_reducible refine LeO.ite ?_ ?_)
      | (with_reducible refine LeO.bind ?_ (fun _ => ?_))
      | exact ih0 _ _ _ _ _ _ _ _
      | exact ih1 _ _ _ _ _
      | exact ih2 _ _ _ _ _
      | exact archivistlaw07_examples.mono _
      | exact archivistlaw07_words.mono _ _
      | exact lex_All.mono _ _
      | exact LeO.none _
      | refine LeO.ite ?_ ?_
      | refine LeO.bind ?_ (fun _ => ?_)
    · intro y0 y1 y2 y3 y4
      unfold archivistlaw07_LexSpaces.j1
      repeat' first
      | (with_reducible exact ih0 _ _ _ _ _ _ _ _)
      | (with_reducible exact ih1 _ _ _ _ _)
      | (with_reducible exact ih2 _ _ _ _ _)
      | (with_reducible exact archivistlaw07_examples.mono _)
      | (with_reducible exact archivistlaw07_words.mono _ _)
      | (with_reducible exact lex_All.mono _ _)
      | (with_reducible exact LeO.refl _)
      | (with_reducible exact LeO.none _)
      | (with_reducible refine LeO.ite ?_ ?_)
      | (with_reducible refine LeO.bind ?_ (fun _ => ?_))
      | exact ih0 _ _ _ _ _ _ _ _
      | exact ih1 _ _ _ _ _
      | exact ih2 _ _ _ _ _
      | exact archivistlaw07_examples.mono _
      | exact archivistlaw07_words.mono _ _
      | exact lex_All.mono _ _
      | exact LeO.none _
      | refine LeO.ite ?_ ?_
      | refine LeO.bind ?_ (fun _ => ?_)
    · intro y0 y1 y2 y3 y4
      unfold archivistlaw07_LexSpaces.l1
      repeat' first
      | (with_reducible exact ih0 _ _ _ _ _ _ _ _)
      | (with_reducible exact ih1 _ _ _ _ _)
      | (with_reducible exact ih2 _ _ _ _ _)
      | (with_reducible exact archivistlaw07_examples.mono _)
      | (with_reducible exact archivistlaw07_words.mono _ _)
      | (with_reducible exact lex_All.mono _ _)
      | (with_reducible exact LeO.refl _)
      | (with_reducible exact LeO.none _)
      | (with_reducible refine LeO.ite ?_ ?_)
      | (with_reducible refine LeO.bind ?_ (fun _ => ?_))
      | exact ih0 _ _ _ _ _ _ _ _
      | exact ih1 _ _ _ _ _
      | exact ih2 _ _ _ _ _
      | exact archivistlaw07_examples.mono _
      | exact archivistlaw07_words.mono _ _
      | exact lex_All.mono _ _
      | exact LeO.none _
      | refine LeO.ite ?_ ?_
      | refine LeO.bind ?_ (fun _ => ?_)
theorem archivistlaw07_LexSpaces.mono : ∀ a0 a1 k, LeO (archivistlaw07_LexSpaces.f k a0 a1) (archivistlaw07_LexSpaces.f (k + 1) a0 a1) := by
  intro a0 a1 k
  obtain ⟨ih0, ih1, ih2⟩ := archivistlaw07_LexSpaces.mono_l k
  unfold archivistlaw07_LexSpaces.f
  repeat' first
      | (with_reducible exact ih0 _ _ _ _ _ _ _ _)
      | (with_reducible exact ih1 _ _ _ _ _)
      | (with_reducible exact ih2 _ _ _ _ _)
      | (with_reducible exact archivistlaw07_examples.mono _)
      | (with_reducible exact archivistlaw07_words.mono _ _)
      | (with_reducible exact lex_All.mono _ _)
      | (with_reducible exact LeO.refl _)
      | (with_reducible exact LeO.none _)
      | (with_reducible refine LeO.ite ?_ ?_)
      | (with_reducible refine LeO.bind ?_ (fun _ => ?_))
      | exact ih0 _ _ _ _ _ _ _ _
      | exact ih1 _ _ _ _ _
      | exact ih2 _ _ _ _ _
      | exact archivistlaw07_examples.mono _
      | exact archivistlaw07_words.mono _ _
      | exact lex_All.mono _ _
      | exact LeO.none _
      | refine LeO.ite ?_ ?_
      | refine LeO.bind ?_ (fun _ => ?_)
set_option maxHeartbeats 8000000 in
set_option maxRecDepth 100000 in
theorem archivistlaw07_LexSpaces.calls (k : Nat) (A0 : Option Addr) (c0 : Nat) (l0 : List Int) (a1 : Int) (r : Bool) (w : World) (hr0 : Kd.C (Kd.int .u8) w A0 l0.length l0) (hc0 : l0.length ≤ c0) (h : archivistlaw07_LexSpaces.f k l0 a1 = some r) :
    Calls Try.prog 4 #[.slice A0 l0.length c0, .int .u8 a1] w fun e w' => e = .returned (.bool r) ∧ Below w.heap.size w w' := by
  have HR0 := Aside0.mk hr0
  have HC0 := Aside0.mk hc0
  clear hr0 hc0
  have HB := Aside0.mk (Below.refl w.heap.size w)
  have H : ((archivistlaw07_examples.f k).bind fun t420 => (if t420 = true then ((archivistlaw07_words.f k l0).bind fun t421 => ((lex_All.f k t421).bind fun bt422 => (archivistlaw07_LexSpaces.l0 k t420 t421 bt422.1 bt422.2.1 bt422.2.2 (wrap64 (Int.tmod a1 20)) (⟨#[]⟩ : ByteArray) 0))) else (none))) = some r := h
  clear h
  replace H := Option.bind_eq_some_iff.mp H
  obtain ⟨t420, A30, H⟩ := H
  replace H : (if t420 = true then ((archivistlaw07_words.f k l0).bind fun t421 => ((lex_All.f k t421).bind fun bt422 => (archivistlaw07_LexSpaces.l0 k t420 t421 bt422.1 bt422.2.1 bt422.2.2 (wrap64 (Int.tmod a1 20)) (⟨#[]⟩ : ByteArray) 0))) else (none)) = some r := H
  have A3 := Aside0.mk A30
  clear A30
  by_cases c4 : t420 = true
  · subst c4
    have H1 : ((archivistlaw07_words.f k l0).bind fun t421 => ((lex_All.f k t421).bind fun bt422 => (archivistlaw07_LexSpaces.l0 k true t421 bt422.1 bt422.2.1 bt422.2.2 (wrap64 (Int.tmod a1 20)) (⟨#[]⟩ : ByteArray) 0))) = some r := by rw [if_pos rfl] at H; exact H
    clear H
    have H := H1
    clear H1
    replace H := Option.bind_eq_some_iff.mp H
    obtain ⟨t421, A50, H⟩ := H
    replace H : ((lex_All.f k t421).bind fun bt422 => (archivistlaw07_LexSpaces.l0 k true t421 bt422.1 bt422.2.1 bt422.2.2 (wrap64 (Int.tmod a1 20)) (⟨#[]⟩ : ByteArray) 0)) = some r := H
    have A5 := Aside0.mk A50
    clear A50
    replace H := Option.bind_eq_some_iff.mp H
    obtain ⟨⟨t422, t423, t424⟩, A60, H⟩ := H
    replace H : (archivistlaw07_LexSpaces.l0 k true t421 t422 t423 t424 (wrap64 (Int.tmod a1 20)) (⟨#[]⟩ : ByteArray) 0) = some r := H
    have A6 := Aside0.mk A60
    clear A60
    have H' := Aside0.mk H
    clear H
    go_enter Try.func4, Try.ntmps4
    go_wp2_with (first | (go_at_call 15; (with_reducible refine (archivistlaw07_examples.calls k  true _ A3.out).mono ?_); rintro e w7 ⟨rfl, hb⟩; have n0_ := Aside0.mk (below_step (by repeat (first | (with_reducible first | exact HB.out | apply below_alloc | apply pw_below_drewN | apply below_drew1) | exact HB.out)) hb); clear HB; have HB := n0_; clear n0_; (try clear hb); (try clear hb2); (try clear hk); (try clear hi)) | (go_at_call 16; (with_reducible refine (archivistlaw07_words.calls k _ _ l0 t421 _ ?side1 ?side2 A5.out).mono ?_); (case side1 => repeat (first | exact (Kd.C_below HR0.out HB.out) | (with_reducible refine Kd.C_alloc ?_ _) | (with_reducible refine Kd.C_drewN ?_ _) | (with_reducible refine Kd.C_drew ?_))); (case side2 => exact HC0.out); rintro e w8 ⟨rfl, hb⟩; have n0_ := Aside0.mk (below_step (by repeat (first | (with_reducible first | exact HB.out | apply below_alloc | apply pw_below_drewN | apply below_drew1) | exact HB.out)) hb); clear HB; have HB := n0_; clear n0_; (try clear hb); (try clear hb2); (try clear hk); (try clear hi)) | (go_at_call 17; (with_reducible refine (lex_All.calls k t421 t422 t423 t424 _ A6.out).mono ?_); rintro e w9 ⟨v425, rfl, ho0, hb⟩; have n0_ := Aside0.mk (Kd.R_lower ho0 (below_size (by repeat (first | (with_reducible first | exact HB.out | apply below_alloc | apply pw_below_drewN | apply below_drew1) | exact HB.out)))); have n1_ := Aside0.mk (below_step (by repeat (first | (with_reducible first | exact HB.out | apply below_alloc | apply pw_below_drewN | apply below_drew1) | exact HB.out)) hb); clear HB; have HO426 := n0_; have HB := n1_; clear n0_ n1_; (try clear hb); (try clear hb2); (try clear hk); (try clear hi); (try clear ho0)))
    repeat (go_quiet (first | (go_at_call 15; (with_reducible refine (archivistlaw07_examples.calls k  true _ A3.out).mono ?_); rintro e w7 ⟨rfl, hb⟩; have n0_ := Aside0.mk (below_step (by repeat (first | (with_reducible first | exact HB.out | apply below_alloc | apply pw_below_drewN | apply below_drew1) | exact HB.out)) hb); clear HB; have HB := n0_; clear n0_; (try clear hb); (try clear hb2); (try clear hk); (try clear hi)) | (go_at_call 16; (with_reducible refine (archivistlaw07_words.calls k _ _ l0 t421 _ ?side1 ?side2 A5.out).mono ?_); (case side1 => repeat (first | exact (Kd.C_below HR0.out HB.out) | (with_reducible refine Kd.C_alloc ?_ _) | (with_reducible refine Kd.C_drewN ?_ _) | (with_reducible refine Kd.C_drew ?_))); (case side2 => exact HC0.out); rintro e w8 ⟨rfl, hb⟩; have n0_ := Aside0.mk (below_step (by repeat (first | (with_reducible first | exact HB.out | apply below_alloc | apply pw_below_drewN | apply below_drew1) | exact HB.out)) hb); clear HB; have HB := n0_; clear n0_; (try clear hb); (try clear hb2); (try clear hk); (try clear hi)) | (go_at_call 17; (with_reducible refine (lex_All.calls k t421 t422 t423 t424 _ A6.out).mono ?_); rintro e w9 ⟨v425, rfl, ho0, hb⟩; have n0_ := Aside0.mk (Kd.R_lower ho0 (below_size (by repeat (first | (with_reducible first | exact HB.out | apply below_alloc | apply pw_below_drewN | apply below_drew1) | exact HB.out)))); have n1_ := Aside0.mk (below_step (by repeat (first | (with_reducible first | exact HB.out | apply below_alloc | apply pw_below_drewN | apply below_drew1) | exact HB.out)) hb); clear HB; have HO426 := n0_; have HB := n1_; clear n0_ n1_; (try clear hb); (try clear hb2); (try clear hk); (try clear hi); (try clear ho0))); try go_wp2_with (first | (go_at_call 15; (with_reducible refine (archivistlaw07_examples.calls k  true _ A3.out).mono ?_); rintro e w7 ⟨rfl, hb⟩; have n0_ := Aside0.mk (below_step (by repeat (first | (with_reducible first | exact HB.out | apply below_alloc | apply pw_below_drewN | apply below_drew1) | exact HB.out)) hb); clear HB; have HB := n0_; clear n0_; (try clear hb); (try clear hb2); (try clear hk); (try clear hi)) | (go_at_call 16; (with_reducible refine (archivistlaw07_words.calls k _ _ l0 t421 _ ?side1 ?side2 A5.out).mono ?_); (case side1 => repeat (first | exact (Kd.C_below HR0.out HB.out) | (with_reducible refine Kd.C_alloc ?_ _) | (with_reducible refine Kd.C_drewN ?_ _) | (with_reducible refine Kd.C_drew ?_))); (case side2 => exact HC0.out); rintro e w8 ⟨rfl, hb⟩; have n0_ := Aside0.mk (below_step (by repeat (first | (with_reducible first | exact HB.out | apply below_alloc | apply pw_below_drewN | apply below_drew1) | exact HB.out)) hb); clear HB; have HB := n0_; clear n0_; (try clear hb); (try clear hb2); (try clear hk); (try clear hi)) | (go_at_call 17; (with_reducible refine (lex_All.calls k t421 t422 t423 t424 _ A6.out).mono ?_); rintro e w9 ⟨v425, rfl, ho0, hb⟩; have n0_ := Aside0.mk (Kd.R_lower ho0 (below_size (by repeat (first | (with_reducible first | exact HB.out | apply below_alloc | apply pw_below_drewN | apply below_drew1) | exact HB.out)))); have n1_ := Aside0.mk (below_step (by repeat (first | (with_reducible first | exact HB.out | apply below_alloc | apply pw_below_drewN | apply below_drew1) | exact HB.out)) hb); clear HB; have HO426 := n0_; have HB := n1_; clear n0_ n1_; (try clear hb); (try clear hb2); (try clear hk); (try clear hi); (try clear ho0))))
    go_loopg [11, 12] k (fun kq v11 v12 w' => ∃ (x11_1 : ByteArray) (x12_1 : Int), v11 = .string x11_1 ∧ v12 = .int .i64 x12_1 ∧ Aside0 (archivistlaw07_LexSpaces.l0 kq true t421 t422 t423 t424 (wrap64 (Int.tmod a1 20)) x11_1 x12_1 = some r) ∧ Aside0 (kq ≤ k) ∧ Aside0 (Kd.R k33 33 w' w.heap.size (fun _ => True) v425 t422) ∧ Aside0 (Below w.heap.size w w'))
    case atStart => exact ⟨((⟨#[]⟩ : ByteArray)), (0), (by first | rfl | (simp; done) | (simp [*]; done)), (by first | rfl | (simp; done) | (simp [*]; done)), H', ⟨Nat.le_refl _⟩, ⟨by (with_reducible repeat (first | apply Kd.R_alloc | apply Kd.R_drewN | apply Kd.R_drew)); exact HO426.out⟩, ⟨by repeat (first | (with_reducible first | exact HB.out | apply below_alloc | apply pw_below_drewN | apply below_drew1) | exact HB.out)⟩⟩
    case round =>
      clear H'
      try clear p2
      try clear c4
      try clear p6
      obtain ⟨x11_1, x12_1, rfl, rfl, HA, HK1, HO_7, HB⟩ := hrel
      cases gk with
      | zero => exact absurd HA.out (by simp [archivistlaw07_LexSpaces.l0])
      | succ k1 =>
        have H := HA.out
        clear HA
        simp only [archivistlaw07_LexSpaces.l0] at H
        by_cases c10 : x12_1 < (wrap64 (Int.tmod a1 20))
        · rw [if_pos c10] at H
          have c10b0 : decide (x12_1 < (wrap64 (Int.tmod a1 20))) = true := decide_eq_true c10
          clear c10
          obtain ⟨ji11, hji11⟩ : ∃ j_ : Int, (Int.tmod x12_1 3) = j_ := ⟨_, rfl⟩
          replace H : (if 0 ≤ (ji11) then (if (ji11) < 3 then ((some (([bt (⟨#[32, 9, 10]⟩ : ByteArray) (ji11)] : List Int) : List Int)).bind fun y427 => (if x11_1.size + (strOfNums y427).size ≤ 9223372036854775807 then (archivistlaw07_LexSpaces.l0 k1 true t421 t422 t423 t424 (wrap64 (Int.tmod a1 20)) (x11_1 ++ (strOfNums y427)) (wrap64 (x12_1 + 1))) else (none))) else (none)) else (none)) = some r := by first | (rw [hji11] at H; exact H) | (simp only [hji11] at H ⊢; exact H)
          by_cases c12 : 0 ≤ (ji11)
          · rw [if_pos c12] at H
            have c12b0 : decide (0 ≤ (ji11)) = true := decide_eq_true c12
            clear c12
            by_cases c13 : (ji11) < 3
            · rw [if_pos c13] at H
              have c13b0 : decide ((ji11) < 3) = true := decide_eq_true c13
              clear c13
              obtain ⟨y427, hy427⟩ : ∃ y_ : List Int, y_ = (([bt (⟨#[32, 9, 10]⟩ : ByteArray) (ji11)] : List Int)) := ⟨_, rfl⟩
              replace H : (if x11_1.size + (strOfNums y427).size ≤ 9223372036854775807 then (archivistlaw07_LexSpaces.l0 k1 true t421 t422 t423 t424 (wrap64 (Int.tmod a1 20)) (x11_1 ++ (strOfNums y427)) (wrap64 (x12_1 + 1))) else (none)) = some r := by first | (rw [hy427]; with_reducible exact H) | (have H2_ := (Option.bind_some _ _).symm.trans H; rw [hy427]; with_reducible exact H2_) | (have H2_ := (Option.bind_some _ _).symm.trans H; with_reducible exact H2_) | with_reducible exact H | (rw [hy427]; exact H) | exact H
              have Ny427 := Aside0.mk hy427
              clear hy427
              by_cases c15 : x11_1.size + (strOfNums y427).size ≤ 9223372036854775807
              · rw [if_pos c15] at H
                have c15b0 := eq_true c15
                have c15b1 : decide (x11_1.size + (strOfNums y427).size ≤ 9223372036854775807) = true := decide_eq_true c15
                try have c15b2 : (9223372036854775807 < x11_1.size + (strOfNums y427).size) = False := eq_false (Nat.not_lt.2 c15)
                have H' := Aside0.mk H
                clear H
                have p14 : 0 ≤ ((ji11) : Int) := of_decide_eq_true (by first | (with_reducible assumption) | assumption)
                have q14 : (ji11) < (3 : Int) := of_decide_eq_true (by first | (with_reducible assumption) | assumption)
                have hx14 := bt_at (⟨#[32, 9, 10]⟩ : ByteArray) (ji11)
                replace p14 := eq_true p14
                replace q14 := eq_true q14
                go_wp2_with (first | ((with_reducible refine gate_dst (N := 40) rfl ?_); (try (refine gate_guard (by rfl) ?_; dsimp only)); refine Kd.R_lit (Kd.int .u8) _ 5 ?hg (N := 40) ?hd (xs := ([bt (⟨#[32, 9, 10]⟩ : ByteArray) (ji11)] : List Int)) (inner := [.int .u8 (bt (⟨#[32, 9, 10]⟩ : ByteArray) (ji11))]) (ok := fun _ => True) (okp := fun _ => True) ?hr ?hp (fun _ hk => hk) trivial (Below.refl _ _) (Nat.le_refl _) (by simp) ?_; (case hd => rfl); (case hg => rfl); (case hr => first | (go_simp; done) | (go_simp; rfl)); (case hp => exact (Reps.one (show Kd.M (Kd.int .u8) _ _ _ (bt (⟨#[32, 9, 10]⟩ : ByteArray) (ji11)) [.int .u8 (bt (⟨#[32, 9, 10]⟩ : ByteArray) (ji11))] from rfl) (Reps.none _ _))); intro v428 w16 ho17 hb hg_ hnew_; clear hg_ hnew_; (first | rw [← Ny427.out] at ho17 | (simp only [Int.reduceToNat] at ho17; rw [← Ny427.out] at ho17)); have n0_ := Aside0.mk (Kd.R_below (by (with_reducible repeat (first | apply Kd.R_alloc | apply Kd.R_drewN | apply Kd.R_drew)); exact HO_7.out) hb); have n1_ := Aside0.mk (Kd.R_lower ho17 (below_size (by repeat (first | (with_reducible first | exact HB.out | apply below_alloc | apply pw_below_drewN | apply below_drew1) | exact HB.out)))); have n2_ := Aside0.mk (below_step (by repeat (first | (with_reducible first | exact HB.out | apply below_alloc | apply pw_below_drewN | apply below_drew1) | exact HB.out)) hb); clear HO_7; clear HB; have HO_7 := n0_; have HO429 := n1_; have HB := n2_; clear n0_ n1_ n2_; clear hb ho17; have hcv18 := own_string (P := Try.prog) Try.underlying22 Try.underlying5 Try.underlying9 (Kd.own_of_R HO429.out)))
                repeat (go_quiet (first | ((with_reducible refine gate_dst (N := 40) rfl ?_); (try (refine gate_guard (by rfl) ?_; dsimp only)); refine Kd.R_lit (Kd.int .u8) _ 5 ?hg (N := 40) ?hd (xs := ([bt (⟨#[32, 9, 10]⟩ : ByteArray) (ji11)] : List Int)) (inner := [.int .u8 (bt (⟨#[32, 9, 10]⟩ : ByteArray) (ji11))]) (ok := fun _ => True) (okp := fun _ => True) ?hr ?hp (fun _ hk => hk) trivial (Below.refl _ _) (Nat.le_refl _) (by simp) ?_; (case hd => rfl); (case hg => rfl); (case hr => first | (go_simp; done) | (go_simp; rfl)); (case hp => exact (Reps.one (show Kd.M (Kd.int .u8) _ _ _ (bt (⟨#[32, 9, 10]⟩ : ByteArray) (ji11)) [.int .u8 (bt (⟨#[32, 9, 10]⟩ : ByteArray) (ji11))] from rfl) (Reps.none _ _))); intro v428 w16 ho17 hb hg_ hnew_; clear hg_ hnew_; (first | rw [← Ny427.out] at ho17 | (simp only [Int.reduceToNat] at ho17; rw [← Ny427.out] at ho17)); have n0_ := Aside0.mk (Kd.R_below (by (with_reducible repeat (first | apply Kd.R_alloc | apply Kd.R_drewN | apply Kd.R_drew)); exact HO_7.out) hb); have n1_ := Aside0.mk (Kd.R_lower ho17 (below_size (by repeat (first | (with_reducible first | exact HB.out | apply below_alloc | apply pw_below_drewN | apply below_drew1) | exact HB.out)))); have n2_ := Aside0.mk (below_step (by repeat (first | (with_reducible first | exact HB.out | apply below_alloc | apply pw_below_drewN | apply below_drew1) | exact HB.out)) hb); clear HO_7; clear HB; have HO_7 := n0_; have HO429 := n1_; have HB := n2_; clear n0_ n1_ n2_; clear hb ho17; have hcv18 := own_string (P := Try.prog) Try.underlying22 Try.underlying5 Try.underlying9 (Kd.own_of_R HO429.out))); try go_wp2_with (first | ((with_reducible refine gate_dst (N := 40) rfl ?_); (try (refine gate_guard (by rfl) ?_; dsimp only)); refine Kd.R_lit (Kd.int .u8) _ 5 ?hg (N := 40) ?hd (xs := ([bt (⟨#[32, 9, 10]⟩ : ByteArray) (ji11)] : List Int)) (inner := [.int .u8 (bt (⟨#[32, 9, 10]⟩ : ByteArray) (ji11))]) (ok := fun _ => True) (okp := fun _ => True) ?hr ?hp (fun _ hk => hk) trivial (Below.refl _ _) (Nat.le_refl _) (by simp) ?_; (case hd => rfl); (case hg => rfl); (case hr => first | (go_simp; done) | (go_simp; rfl)); (case hp => exact (Reps.one (show Kd.M (Kd.int .u8) _ _ _ (bt (⟨#[32, 9, 10]⟩ : ByteArray) (ji11)) [.int .u8 (bt (⟨#[32, 9, 10]⟩ : ByteArray) (ji11))] from rfl) (Reps.none _ _))); intro v428 w16 ho17 hb hg_ hnew_; clear hg_ hnew_; (first | rw [← Ny427.out] at ho17 | (simp only [Int.reduceToNat] at ho17; rw [← Ny427.out] at ho17)); have n0_ := Aside0.mk (Kd.R_below (by (with_reducible repeat (first | apply Kd.R_alloc | apply Kd.R_drewN | apply Kd.R_drew)); exact HO_7.out) hb); have n1_ := Aside0.mk (Kd.R_lower ho17 (below_size (by repeat (first | (with_reducible first | exact HB.out | apply below_alloc | apply pw_below_drewN | apply below_drew1) | exact HB.out)))); have n2_ := Aside0.mk (below_step (by repeat (first | (with_reducible first | exact HB.out | apply below_alloc | apply pw_below_drewN | apply below_drew1) | exact HB.out)) hb); clear HO_7; clear HB; have HO_7 := n0_; have HO429 := n1_; have HB := n2_; clear n0_ n1_ n2_; clear hb ho17; have hcv18 := own_string (P := Try.prog) Try.underlying22 Try.underlying5 Try.underlying9 (Kd.own_of_R HO429.out))))
                go_roundg k1
                case measure => have := HK1.out; omega
                case rel => exact ⟨(x11_1 ++ (strOfNums y427)), (wrap64 (x12_1 + 1)), (by first | rfl | (simp; done) | (simp [*]; done)), (by first | rfl | (simp; done) | (simp [*]; done)), H', ⟨by have := HK1.out; omega⟩, ⟨by (with_reducible repeat (first | apply Kd.R_alloc | apply Kd.R_drewN | apply Kd.R_drew)); exact HO_7.out⟩, ⟨by repeat (first | (with_reducible first | exact HB.out | apply below_alloc | apply pw_below_drewN | apply below_drew1) | exact HB.out)⟩⟩
              · rw [if_neg c15] at H
                exact absurd H (by simp)
            · rw [if_neg c13] at H
              exact absurd H (by simp)
          · rw [if_neg c12] at H
            exact absurd H (by simp)
        · rw [if_neg c10] at H
          have c10b0 : decide (x12_1 < (wrap64 (Int.tmod a1 20))) = false := decide_eq_false c10
          clear c10
          by_cases c19 : x11_1.size + t421.size ≤ 9223372036854775807
          · rw [if_pos c19] at H
            have c19b0 := eq_true c19
            have c19b1 : decide (x11_1.size + t421.size ≤ 9223372036854775807) = true := decide_eq_true c19
            try have c19b2 : (9223372036854775807 < x11_1.size + t421.size) = False := eq_false (Nat.not_lt.2 c19)
            by_cases c20 : (x11_1 ++ t421).size + x11_1.size ≤ 9223372036854775807
            · rw [if_pos c20] at H
              have c20b0 := eq_true c20
              have c20b1 : decide ((x11_1 ++ t421).size + x11_1.size ≤ 9223372036854775807) = true := decide_eq_true c20
              try have c20b2 : (9223372036854775807 < (x11_1 ++ t421).size + x11_1.size) = False := eq_false (Nat.not_lt.2 c20)
              replace H := Option.bind_eq_some_iff.mp H
              obtain ⟨⟨t430, t431, t432⟩, A210, H⟩ := H
              replace H : (if t432 = t424 then (if (t422.length : Int) = (t430.length : Int) then (if t424 = 0 then (archivistlaw07_LexSpaces.j1 k1 true t422 (wrap64 (Int.tmod a1 20)) t430 (t431 != (wrap64 ((t421.size : Int) + (wrap64 (2 * (wrap64 (Int.tmod a1 20)))))))) else (if t431 = (wrap64 (t423 + (wrap64 (Int.tmod a1 20)))) then (archivistlaw07_LexSpaces.j1 k1 true t422 (wrap64 (Int.tmod a1 20)) t430 false) else (archivistlaw07_LexSpaces.j1 k1 true t422 (wrap64 (Int.tmod a1 20)) t430 true))) else (archivistlaw07_LexSpaces.j1 k1 true t422 (wrap64 (Int.tmod a1 20)) t430 true)) else (archivistlaw07_LexSpaces.j1 k1 true t422 (wrap64 (Int.tmod a1 20)) t430 true)) = some r := H
              have A21 := Aside0.mk A210
              clear A210
              have HC22 := Aside0.mk H
              clear H
              go_upto_region 13 with (first | (go_at_call 17; (with_reducible refine (lex_All.calls k1 ((x11_1 ++ t421) ++ x11_1) t430 t431 t432 _ A21.out).mono ?_); rintro e w23 ⟨v433, rfl, ho0, hb⟩; have n0_ := Aside0.mk (Kd.R_elder' (by (with_reducible repeat (first | apply Kd.R_alloc | apply Kd.R_drewN | apply Kd.R_drew)); exact HO_7.out) (Kd.R_base ho0) hb); have n1_ := Aside0.mk (Kd.R_lower (Kd.R_new' ho0 (Kd.R_lt (by (with_reducible repeat (first | apply Kd.R_alloc | apply Kd.R_drewN | apply Kd.R_drew)); exact HO_7.out))) (below_size (by repeat (first | (with_reducible first | exact HB.out | apply below_alloc | apply pw_below_drewN | apply below_drew1) | exact HB.out)))); have n2_ := Aside0.mk (below_step (by repeat (first | (with_reducible first | exact HB.out | apply below_alloc | apply pw_below_drewN | apply below_drew1) | exact HB.out)) hb); clear HO_7; clear HB; have HO_7 := n0_; have HO434 := n1_; have HB := n2_; clear n0_ n1_ n2_; (try clear hb); (try clear hb2); (try clear hk); (try clear hi); (try clear ho0)))
              repeat (go_quiet (first | (go_at_call 17; (with_reducible refine (lex_All.calls k1 ((x11_1 ++ t421) ++ x11_1) t430 t431 t432 _ A21.out).mono ?_); rintro e w23 ⟨v433, rfl, ho0, hb⟩; have n0_ := Aside0.mk (Kd.R_elder' (by (with_reducible repeat (first | apply Kd.R_alloc | apply Kd.R_drewN | apply Kd.R_drew)); exact HO_7.out) (Kd.R_base ho0) hb); have n1_ := Aside0.mk (Kd.R_lower (Kd.R_new' ho0 (Kd.R_lt (by (with_reducible repeat (first | apply Kd.R_alloc | apply Kd.R_drewN | apply Kd.R_drew)); exact HO_7.out))) (below_size (by repeat (first | (with_reducible first | exact HB.out | apply below_alloc | apply pw_below_drewN | apply below_drew1) | exact HB.out)))); have n2_ := Aside0.mk (below_step (by repeat (first | (with_reducible first | exact HB.out | apply below_alloc | apply pw_below_drewN | apply below_drew1) | exact HB.out)) hb); clear HO_7; clear HB; have HO_7 := n0_; have HO434 := n1_; have HB := n2_; clear n0_ n1_ n2_; (try clear hb); (try clear hb2); (try clear hk); (try clear hi); (try clear ho0))); go_upto_region 13 with (first | (go_at_call 17; (with_reducible refine (lex_All.calls k1 ((x11_1 ++ t421) ++ x11_1) t430 t431 t432 _ A21.out).mono ?_); rintro e w23 ⟨v433, rfl, ho0, hb⟩; have n0_ := Aside0.mk (Kd.R_elder' (by (with_reducible repeat (first | apply Kd.R_alloc | apply Kd.R_drewN | apply Kd.R_drew)); exact HO_7.out) (Kd.R_base ho0) hb); have n1_ := Aside0.mk (Kd.R_lower (Kd.R_new' ho0 (Kd.R_lt (by (with_reducible repeat (first | apply Kd.R_alloc | apply Kd.R_drewN | apply Kd.R_drew)); exact HO_7.out))) (below_size (by repeat (first | (with_reducible first | exact HB.out | apply below_alloc | apply pw_below_drewN | apply below_drew1) | exact HB.out)))); have n2_ := Aside0.mk (below_step (by repeat (first | (with_reducible first | exact HB.out | apply below_alloc | apply pw_below_drewN | apply below_drew1) | exact HB.out)) hb); clear HO_7; clear HB; have HO_7 := n0_; have HO434 := n1_; have HB := n2_; clear n0_ n1_ n2_; (try clear hb); (try clear hb2); (try clear hk); (try clear hi); (try clear ho0))))
              (try simp only [Act.put, List.setIfInBounds_toArray, List.set_cons_zero, List.set_cons_succ])
              go_cut [86] (fun v86 wc => ∃ (kq : Nat) (x86_21 : Bool), v86 = .bool x86_21 ∧ Aside0 (archivistlaw07_LexSpaces.j1 kq true t422 (wrap64 (Int.tmod a1 20)) t430 x86_21 = some r) ∧ Aside0 (kq ≤ k1) ∧ Aside0 (Kd.R k33 33 wc w.heap.size (fun k_ => some k_ ≠ (v433 : Value).ownBlock) v425 t422) ∧ Aside0 (Kd.R k33 33 wc w.heap.size (fun k_ => some k_ ≠ (v425 : Value).ownBlock) v433 t430) ∧ Aside0 (Below w.heap.size w wc))
              case first =>
                have H := HC22.out
                clear HC22
                by_cases c24 : t432 = t424
                · rw [if_pos c24] at H
                  have c24b0 : (t432 == t424) = true := beq_iff_eq.mpr c24
                  have c24b1 : (t432 != t424) = false := bne_eq_false_iff_eq.mpr c24
                  clear c24
                  (first | rw [c24b0] | (simp only [i64_w, i32_w]; rw [c24b0]) | skip)
                  by_cases c25 : (t422.length : Int) = (t430.length : Int)
                  · rw [if_pos c25] at H
                    have c25b0 : ((t422.length : Int) == (t430.length : Int)) = true := beq_iff_eq.mpr c25
                    have c25b1 : ((t422.length : Int) != (t430.length : Int)) = false := bne_eq_false_iff_eq.mpr c25
                    have c25b2 : (t422.length == t430.length) = true := by first | simpa using c25 | (simp at c25 ⊢; omega)
                    clear c25
                    by_cases c26 : t424 = 0
                    · rw [if_pos c26] at H
                      have c26b0 : (t424 == 0) = true := beq_iff_eq.mpr c26
                      have c26b1 : (t424 != 0) = false := bne_eq_false_iff_eq.mpr c26
                      clear c26
                      have H' := Aside0.mk H
                      clear H
                      obtain ⟨Ao27, co27, eo27⟩ := Kd.R_slice HO_7.out
                      subst eo27
                      obtain ⟨Ao28, co28, eo28⟩ := Kd.R_slice HO434.out
                      subst eo28
                      go_wp2
                      repeat (go_quiet (fail); try go_wp2)
                      go_meet
                      case rel => exact ⟨_, ((t431 != (wrap64 ((t421.size : Int) + (wrap64 (2 * (wrap64 (Int.tmod a1 20)))))))), (by first | rfl | (simp; done) | (simp [*]; done)), H', ⟨by have := HK1.out; first | omega | exact Nat.le_refl _⟩, ⟨by (with_reducible repeat (first | apply Kd.R_alloc | apply Kd.R_drewN | apply Kd.R_drew)); exact Kd.R_mono HO_7.out (fun _ hk => hk.2)⟩, ⟨by (with_reducible repeat (first | apply Kd.R_alloc | apply Kd.R_drewN | apply Kd.R_drew)); exact Kd.R_mono HO434.out (fun _ hk => hk.2)⟩, ⟨by repeat (first | (with_reducible first | exact HB.out | apply below_alloc | apply pw_below_drewN | apply below_drew1) | exact HB.out)⟩⟩
                    · rw [if_neg c26] at H
                      have c26b0 : (t424 == 0) = false := beq_eq_false_iff_ne.mpr c26
                      have c26b1 : (t424 != 0) = true := bne_iff_ne.mpr c26
                      by_cases c29 : t431 = (wrap64 (t423 + (wrap64 (Int.tmod a1 20))))
                      · rw [if_pos c29] at H
                        have c29b0 : (t431 == (wrap64 (t423 + (wrap64 (Int.tmod a1 20))))) = true := beq_iff_eq.mpr c29
                        have c29b1 : (t431 != (wrap64 (t423 + (wrap64 (Int.tmod a1 20))))) = false := bne_eq_false_iff_eq.mpr c29
                        clear c29
                        have H' := Aside0.mk H
                        clear H
                        obtain ⟨Ao30, co30, eo30⟩ := Kd.R_slice HO_7.out
                        subst eo30
                        obtain ⟨Ao31, co31, eo31⟩ := Kd.R_slice HO434.out
                        subst eo31
                        go_wp2
                        repeat (go_quiet (fail); try go_wp2)
                        go_meet
                        case rel => exact ⟨_, (false), (by first | rfl | (simp; done) | (simp [*]; done)), H', ⟨by have := HK1.out; first | omega | exact Nat.le_refl _⟩, ⟨by (with_reducible repeat (first | apply Kd.R_alloc | apply Kd.R_drewN | apply Kd.R_drew)); exact Kd.R_mono HO_7.out (fun _ hk => hk.2)⟩, ⟨by (with_reducible repeat (first | apply Kd.R_alloc | apply Kd.R_drewN | apply Kd.R_drew)); exact Kd.R_mono HO434.out (fun _ hk => hk.2)⟩, ⟨by repeat (first | (with_reducible first | exact HB.out | apply below_alloc | apply pw_below_drewN | apply below_drew1) | exact HB.out)⟩⟩
                      · rw [if_neg c29] at H
                        have c29b0 : (t431 == (wrap64 (t423 + (wrap64 (Int.tmod a1 20))))) = false := beq_eq_false_iff_ne.mpr c29
                        have c29b1 : (t431 != (wrap64 (t423 + (wrap64 (Int.tmod a1 20))))) = true := bne_iff_ne.mpr c29
                        have H' := Aside0.mk H
                        clear H
                        obtain ⟨Ao32, co32, eo32⟩ := Kd.R_slice HO_7.out
                        subst eo32
                        obtain ⟨Ao33, co33, eo33⟩ := Kd.R_slice HO434.out
                        subst eo33
                        go_wp2
                        repeat (go_quiet (fail); try go_wp2)
                        go_meet
                        case rel => exact ⟨_, (true), (by first | rfl | (simp; done) | (simp [*]; done)), H', ⟨by have := HK1.out; first | omega | exact Nat.le_refl _⟩, ⟨by (with_reducible repeat (first | apply Kd.R_alloc | apply Kd.R_drewN | apply Kd.R_drew)); exact Kd.R_mono HO_7.out (fun _ hk => hk.2)⟩, ⟨by (with_reducible repeat (first | apply Kd.R_alloc | apply Kd.R_drewN | apply Kd.R_drew)); exact Kd.R_mono HO434.out (fun _ hk => hk.2)⟩, ⟨by repeat (first | (with_reducible first | exact HB.out | apply below_alloc | apply pw_below_drewN | apply below_drew1) | exact HB.out)⟩⟩
                  · rw [if_neg c25] at H
                    have c25b0 : ((t422.length : Int) == (t430.length : Int)) = false := beq_eq_false_iff_ne.mpr c25
                    have c25b1 : ((t422.length : Int) != (t430.length : Int)) = true := bne_iff_ne.mpr c25
                    have c25b2 : (t422.length == t430.length) = false := by first | simpa using c25 | (simp at c25 ⊢; omega)
                    have H' := Aside0.mk H
                    clear H
                    obtain ⟨Ao34, co34, eo34⟩ := Kd.R_slice HO_7.out
                    subst eo34
                    obtain ⟨Ao35, co35, eo35⟩ := Kd.R_slice HO434.out
                    subst eo35
                    go_wp2
                    repeat (go_quiet (fail); try go_wp2)
                    go_meet
                    case rel => exact ⟨_, (true), (by first | rfl | (simp; done) | (simp [*]; done)), H', ⟨by have := HK1.out; first | omega | exact Nat.le_refl _⟩, ⟨by (with_reducible repeat (first | apply Kd.R_alloc | apply Kd.R_drewN | apply Kd.R_drew)); exact Kd.R_mono HO_7.out (fun _ hk => hk.2)⟩, ⟨by (with_reducible repeat (first | apply Kd.R_alloc | apply Kd.R_drewN | apply Kd.R_drew)); exact Kd.R_mono HO434.out (fun _ hk => hk.2)⟩, ⟨by repeat (first | (with_reducible first | exact HB.out | apply below_alloc | apply pw_below_drewN | apply below_drew1) | exact HB.out)⟩⟩
                · rw [if_neg c24] at H
                  have c24b0 : (t432 == t424) = false := beq_eq_false_iff_ne.mpr c24
                  have c24b1 : (t432 != t424) = true := bne_iff_ne.mpr c24
                  (first | rw [c24b0] | (simp only [i64_w, i32_w]; rw [c24b0]) | skip)
                  have H' := Aside0.mk H
                  clear H
                  go_wp2
                  repeat (go_quiet (fail); try go_wp2)
                  go_meet
                  case rel => exact ⟨_, (true), (by first | rfl | (simp; done) | (simp [*]; done)), H', ⟨by have := HK1.out; first | omega | exact Nat.le_refl _⟩, ⟨by (with_reducible repeat (first | apply Kd.R_alloc | apply Kd.R_drewN | apply Kd.R_drew)); exact Kd.R_mono HO_7.out (fun _ hk => hk.2)⟩, ⟨by (with_reducible repeat (first | apply Kd.R_alloc | apply Kd.R_drewN | apply Kd.R_drew)); exact Kd.R_mono HO434.out (fun _ hk => hk.2)⟩, ⟨by repeat (first | (with_reducible first | exact HB.out | apply below_alloc | apply pw_below_drewN | apply below_drew1) | exact HB.out)⟩⟩
              case rest =>
                clear HC22
                try clear c1
                try clear p1
                try clear q1
                try clear hx1
                try clear hcv1
                try clear c2
                try clear p2
                try clear c4
                try clear p6
                try clear c10
                try clear c10b0
                try clear c12
                try clear c12b0
                try clear c13
                try clear c13b0
                try clear p14
                try clear q14
                try clear hx14
                try clear c15
                try clear c15b0
                try clear c15b1
                try clear c15b2
                try clear hcv18
                try clear c19
                try clear c19b0
                try clear c19b1
                try clear c19b2
                try clear c20
                try clear c20b0
                try clear c20b1
                try clear c20b2
                try clear c24
                try clear c24b0
                try clear c24b1
                try clear c25
                try clear c25b0
                try clear c25b1
                try clear c25b2
                try clear c26
                try clear c26b0
                try clear c26b1
                try clear c29
                try clear c29b0
                try clear c29b1
                try clear p14
                try clear p2
                try clear p6
                try clear q14
                obtain ⟨kq, x86_21, rfl, HA, HJ21, HO_7, HO_13, HB⟩ := hcut
                cases kq with
                | zero => exact absurd HA.out (by simp [archivistlaw07_LexSpaces.j1])
                | succ kj21 =>
                  have H := HA.out
                  clear HA
                  simp only [archivistlaw07_LexSpaces.j1] at H
                  by_cases c36 : x86_21 = true
                  · subst c36
                    have H1 : (none) = some r := by rw [if_pos rfl] at H; exact H
                    clear H
                    have H := H1
                    clear H1
                    exact absurd H (by simp)
                  · replace c36 := Bool.eq_false_iff.mpr c36
                    subst c36
                    have H1 : (archivistlaw07_LexSpaces.l1 kj21 true t422 (wrap64 (Int.tmod a1 20)) t430 0) = some r := by rw [if_neg (show ¬ (false = true) by decide)] at H; exact H
                    clear H
                    have H := H1
                    clear H1
                    have H' := Aside0.mk H
                    clear H
                    go_wp2
                    repeat (go_quiet (fail); try go_wp2)
                    go_loopg [16] kj21 (fun kq v16 w' => ∃ (x16_3 : Int), v16 = .int .i64 x16_3 ∧ Aside0 (archivistlaw07_LexSpaces.l1 kq true t422 (wrap64 (Int.tmod a1 20)) t430 x16_3 = some r) ∧ Aside0 (kq ≤ kj21) ∧ Aside0 (Kd.R k33 33 w' w.heap.size (fun k_ => some k_ ≠ (v433 : Value).ownBlock) v425 t422) ∧ Aside0 (Kd.R k33 33 w' w.heap.size (fun k_ => some k_ ≠ (v425 : Value).ownBlock) v433 t430) ∧ Aside0 (Below w.heap.size w w'))
                    case atStart => exact ⟨(0), (by first | rfl | (simp; done) | (simp [*]; done)), H', ⟨Nat.le_refl _⟩, ⟨by (with_reducible repeat (first | apply Kd.R_alloc | apply Kd.R_drewN | apply Kd.R_drew)); exact HO_7.out⟩, ⟨by (with_reducible repeat (first | apply Kd.R_alloc | apply Kd.R_drewN | apply Kd.R_drew)); exact HO_13.out⟩, ⟨by repeat (first | (with_reducible first | exact HB.out | apply below_alloc | apply pw_below_drewN | apply below_drew1) | exact HB.out)⟩⟩
                    case round =>
                      clear H'
                      try clear c1
                      try clear p1
                      try clear q1
                      try clear hx1
                      try clear hcv1
                      try clear c2
                      try clear p2
                      try clear c3
                      try clear c4
                      try clear p6
                      try clear c10
                      try clear c10b0
                      try clear c12
                      try clear c12b0
                      try clear c13
                      try clear c13b0
                      try clear p14
                      try clear q14
                      try clear hx14
                      try clear c15
                      try clear c15b0
                      try clear c15b1
                      try clear c15b2
                      try clear hcv18
                      try clear c19
                      try clear c19b0
                      try clear c19b1
                      try clear c19b2
                      try clear c20
                      try clear c20b0
                      try clear c20b1
                      try clear c20b2
                      try clear c24
                      try clear c24b0
                      try clear c24b1
                      try clear c25
                      try clear c25b0
                      try clear c25b1
                      try clear c25b2
                      try clear c26
                      try clear c26b0
                      try clear c26b1
                      try clear c29
                      try clear c29b0
                      try clear c29b1
                      try clear c36
                      try clear p1
                      try clear p14
                      try clear p2
                      try clear p6
                      try clear q1
                      try clear q14
                      obtain ⟨x16_3, rfl, HA, HK3, HO_7, HO_13, HB⟩ := hrel
                      cases gk with
                      | zero => exact absurd HA.out (by simp [archivistlaw07_LexSpaces.l1])
                      | succ k3 =>
                        have H := HA.out
                        clear HA
                        simp only [archivistlaw07_LexSpaces.l1] at H
                        by_cases c37 : x16_3 < (t422.length : Int)
                        · rw [if_pos c37] at H
                          have c37b0 : decide (x16_3 < (t422.length : Int)) = true := decide_eq_true c37
                          clear c37
                          by_cases c38 : 0 ≤ x16_3
                          · rw [if_pos c38] at H
                            have c38b0 : decide (0 ≤ x16_3) = true := decide_eq_true c38
                            clear c38
                            by_cases c39 : x16_3 < (t430.length : Int)
                            · rw [if_pos c39] at H
                              have c39b0 : decide (x16_3 < (t430.length : Int)) = true := decide_eq_true c39
                              clear c39
                              by_cases c40 : ((rd_T33 t422 x16_3).f0) = ((rd_T33 t430 x16_3).f0)
                              · rw [if_pos c40] at H
                                have c40b0 : (((rd_T33 t422 x16_3).f0) == ((rd_T33 t430 x16_3).f0)) = true := beq_iff_eq.mpr c40
                                have c40b1 : (((rd_T33 t422 x16_3).f0) != ((rd_T33 t430 x16_3).f0)) = false := bne_eq_false_iff_eq.mpr c40
                                clear c40
                                by_cases c41 : ((rd_T33 t422 x16_3).f1).toList = ((rd_T33 t430 x16_3).f1).toList
                                · rw [if_pos c41] at H
                                  have c41b0 : (((rd_T33 t422 x16_3).f1).toList == ((rd_T33 t430 x16_3).f1).toList) = true := beq_iff_eq.mpr c41
                                  have c41b1 : (((rd_T33 t422 x16_3).f1).toList != ((rd_T33 t430 x16_3).f1).toList) = false := bne_eq_false_iff_eq.mpr c41
                                  clear c41
                                  by_cases c42 : (wrap64 (((rd_T33 t422 x16_3).f2) + (wrap64 (Int.tmod a1 20)))) = ((rd_T33 t430 x16_3).f2)
                                  · rw [if_pos c42] at H
                                    have c42b0 : ((wrap64 (((rd_T33 t422 x16_3).f2) + (wrap64 (Int.tmod a1 20)))) == ((rd_T33 t430 x16_3).f2)) = true := beq_iff_eq.mpr c42
                                    have c42b1 : ((wrap64 (((rd_T33 t422 x16_3).f2) + (wrap64 (Int.tmod a1 20)))) != ((rd_T33 t430 x16_3).f2)) = false := bne_eq_false_iff_eq.mpr c42
                                    clear c42
                                    have H' := Aside0.mk H
                                    clear H
                                    obtain ⟨Ao43, co43, eo43⟩ := Kd.R_slice HO_7.out
                                    subst eo43
                                    have p435 : 0 ≤ (x16_3 : Int) := of_decide_eq_true (by first | (with_reducible assumption) | assumption)
                                    have q435 : x16_3 < (t422.length : Int) := of_decide_eq_true (by first | (with_reducible assumption) | assumption)
                                    obtain ⟨ad435, e435, hx435_0, hx435_1, hx435_2⟩ := at_T33 (Kd.R_reads' HO_7.out).2.2 x16_3 p435 q435
                                    cases e435
                                    replace p435 := eq_true p435
                                    replace q435 := eq_true q435
                                    obtain ⟨Ao44, co44, eo44⟩ := Kd.R_slice HO_13.out
                                    subst eo44
                                    have p436 : 0 ≤ (x16_3 : Int) := of_decide_eq_true (by first | (with_reducible assumption) | assumption)
                                    have q436 : x16_3 < (t430.length : Int) := of_decide_eq_true (by first | (with_reducible assumption) | assumption)
                                    obtain ⟨ad436, e436, hx436_0, hx436_1, hx436_2⟩ := at_T33 (Kd.R_reads' HO_13.out).2.2 x16_3 p436 q436
                                    cases e436
                                    replace p436 := eq_true p436
                                    replace q436 := eq_true q436
                                    have p437 : 0 ≤ (x16_3 : Int) := of_decide_eq_true (by first | (with_reducible assumption) | assumption)
                                    have q437 : x16_3 < (t422.length : Int) := of_decide_eq_true (by first | (with_reducible assumption) | assumption)
                                    obtain ⟨ad437, e437, hx437_0, hx437_1, hx437_2⟩ := at_T33 (Kd.R_reads' HO_7.out).2.2 x16_3 p437 q437
                                    obtain rfl : ad435 = ad437 := (by injection e437)
                                    replace p437 := eq_true p437
                                    replace q437 := eq_true q437
                                    have p438 : 0 ≤ (x16_3 : Int) := of_decide_eq_true (by first | (with_reducible assumption) | assumption)
                                    have q438 : x16_3 < (t430.length : Int) := of_decide_eq_true (by first | (with_reducible assumption) | assumption)
                                    obtain ⟨ad438, e438, hx438_0, hx438_1, hx438_2⟩ := at_T33 (Kd.R_reads' HO_13.out).2.2 x16_3 p438 q438
                                    obtain rfl : ad436 = ad438 := (by injection e438)
                                    replace p438 := eq_true p438
                                    replace q438 := eq_true q438
                                    have p439 : 0 ≤ (x16_3 : Int) := of_decide_eq_true (by first | (with_reducible assumption) | assumption)
                                    have q439 : x16_3 < (t422.length : Int) := of_decide_eq_true (by first | (with_reducible assumption) | assumption)
                                    obtain ⟨ad439, e439, hx439_0, hx439_1, hx439_2⟩ := at_T33 (Kd.R_reads' HO_7.out).2.2 x16_3 p439 q439
                                    obtain rfl : ad435 = ad439 := (by injection e439)
                                    replace p439 := eq_true p439
                                    replace q439 := eq_true q439
                                    have p440 : 0 ≤ (x16_3 : Int) := of_decide_eq_true (by first | (with_reducible assumption) | assumption)
                                    have q440 : x16_3 < (t430.length : Int) := of_decide_eq_true (by first | (with_reducible assumption) | assumption)
                                    obtain ⟨ad440, e440, hx440_0, hx440_1, hx440_2⟩ := at_T33 (Kd.R_reads' HO_13.out).2.2 x16_3 p440 q440
                                    obtain rfl : ad436 = ad440 := (by injection e440)
                                    replace p440 := eq_true p440
                                    replace q440 := eq_true q440
                                    go_wp2
                                    repeat (go_quiet (fail); try go_wp2)
                                    go_roundg k3
                                    case measure => have := HK1.out; have := HJ21.out; have := HK3.out; omega
                                    case rel => exact ⟨(wrap64 (x16_3 + 1)), (by first | rfl | (simp; done) | (simp [*]; done)), H', ⟨by have := HK1.out; have := HJ21.out; have := HK3.out; omega⟩, ⟨by (with_reducible repeat (first | apply Kd.R_alloc | apply Kd.R_drewN | apply Kd.R_drew)); exact HO_7.out⟩, ⟨by (with_reducible repeat (first | apply Kd.R_alloc | apply Kd.R_drewN | apply Kd.R_drew)); exact HO_13.out⟩, ⟨by repeat (first | (with_reducible first | exact HB.out | apply below_alloc | apply pw_below_drewN | apply below_drew1) | exact HB.out)⟩⟩
                                  · rw [if_neg c42] at H
                                    exact absurd H (by simp)
                                · rw [if_neg c41] at H
                                  exact absurd H (by simp)
                              · rw [if_neg c40] at H
                                exact absurd H (by simp)
                            · rw [if_neg c39] at H
                              exact absurd H (by simp)
                          · rw [if_neg c38] at H
                            exact absurd H (by simp)
                        · rw [if_neg c37] at H
                          have c37b0 : decide (x16_3 < (t422.length : Int)) = false := decide_eq_false c37
                          clear c37
                          obtain rfl := Option.some.inj H
                          obtain ⟨Ao45, co45, eo45⟩ := Kd.R_slice HO_7.out
                          subst eo45
                          go_wp2
                          repeat (go_quiet (fail); try go_wp2)
                          go_ret
                          exact ⟨by first | rfl | (simp [errW_none, errW_some] <;> rfl) | (simp [*, errW_none, errW_some] <;> rfl), by repeat (first | (with_reducible first | exact HB.out | apply below_alloc | apply pw_below_drewN | apply below_drew1) | exact HB.out)⟩
            · rw [if_neg c20] at H
              exact absurd H (by simp)
          · rw [if_neg c19] at H
            exact absurd H (by simp)
  · replace c4 := Bool.eq_false_iff.mpr c4
    subst c4
    have H1 : (none) = some r := by rw [if_neg (show ¬ (false = true) by decide)] at H; exact H
    clear H
    have H := H1
    clear H1
    exact absurd H (by simp)

/-- THE ONE PURE STATEMENT of archivistlaw07_LexSpaces: yours. -/
def archivistlaw07_LexSpaces.Pure : Prop := ∀ (l0 : List Int) (a1 : Int), l0.length ≤ maxLen → l0.length * 1 ≤ 140737488351232 → (∀ x ∈ l0, (Lit.int .u8 x).wf = true) → (Lit.int .u8 a1).wf = true → ∃ k, archivistlaw07_LexSpaces.f k l0 a1 = some true
theorem archivistlaw07_LexSpaces.walk (P : archivistlaw07_LexSpaces.Pure) (a0 : Option Addr) (len0 cap0 : Nat) (z0 : List Int) (a1 : Int) (w : World) (w0 : (a0 = none ∧ len0 = 0 ∧ cap0 = 0 ∧ z0 = []) ∨ ∃ x, a0 = some x ∧ len0 ≤ cap0 ∧ cap0 ≤ maxLen ∧ z0.length = cap0 ∧ (∀ i, i < z0.length → w.cell? (x.add i) = some (.int .u8 (z0.getD i 0))) ∧ ∀ n ∈ z0, (Lit.int .u8 n).wf = true) (y0 : len0 * 1 ≤ 140737488351232) (w1 : (Lit.int .u8 a1).wf = true) :
    Calls Try.prog 4 #[.slice a0 len0 cap0, .int .u8 a1] w fun e w' => e = .returned (.bool true) ∧ Below w.heap.size w w' := by
  obtain ⟨l0, rfl, hr0, hm0, hw0, hc0⟩ := ReadsInt.ofRowC w0
  obtain ⟨k, h⟩ := P l0 a1 hm0 y0 hw0 w1
  refine (archivistlaw07_LexSpaces.calls k _ _ l0 a1 true w (Kd.C_of_reads (d := (0 : Int)) (h1 := fun _ => rfl) hr0) hc0 h).mono ?_
  rintro e w' ⟨rfl, hd⟩
  exact ⟨rfl, hd⟩

end Go.Proofs.Ytifcnblgpnfehaa.X
