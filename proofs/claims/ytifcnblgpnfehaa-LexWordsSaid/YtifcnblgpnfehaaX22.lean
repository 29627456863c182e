-- Laid by xprint.py, a program of this session's, out of the translation.
import Derived.Test.YtifcnblgpnfehaaX0
import Derived.Test.YtifcnblgpnfehaaX16
import Derived.Test.YtifcnblgpnfehaaX17
import Derived.Test.YtifcnblgpnfehaaX18
import Derived.Test.YtifcnblgpnfehaaX21
namespace Go.Proofs.Ytifcnblgpnfehaa.X
open Go.RowKit Go.Proofs.YtifcnblgpnfehaaW.PrintWords Go.Proofs.YtifcnblgpnfehaaW.PrintLast Go.Proofs.YtifcnblgpnfehaaW.PrintMore
attribute [local go_sem] max2_int min2_int max_two min_two max_three min_three max_four min_four x_isSome   -- for this text's walks alone
set_option linter.unusedVariables false
set_option linter.unusedSimpArgs false

/-! ### archivistlaw07_LexWords: function 3 -/
mutual
def archivistlaw07_LexWords.j0 : Nat → ByteArray → Bool → Option (Bool)
  | 0, _, _ => none
  | k + 1, x0, x7 => (lex_All.f k x0).bind fun bt396 => ((archivistref07_All.f k x0).bind fun bt401 => (if (bt396.1.length : Int) = (bt401.1.length : Int) then (if bt396.2.1 = bt401.2.1 then (archivistlaw07_LexWords.j1 k x7 bt396.1 bt401.1 (bt396.2.2 != bt401.2.2)) else (archivistlaw07_LexWords.j1 k x7 bt396.1 bt401.1 true)) else (archivistlaw07_LexWords.j1 k x7 bt396.1 bt401.1 true)))
def archivistlaw07_LexWords.j1 : Nat → Bool → List (S33) → List (S34) → Bool → Option (Bool)
  | 0, _, _, _, _ => none
  | k + 1, x7, x8, x11, x50 => if x50 = true then (none) else (archivistlaw07_LexWords.l0 k x7 x8 x11 0)
def archivistlaw07_LexWords.l0 : Nat → Bool → List (S33) → List (S34) → Int → Option (Bool)
  | 0, _, _, _, _ => none
  | k + 1, x7, x8, x11, x14 => if x14 < (x8.length : Int) then (if 0 ≤ x14 then (if x14 < (x11.length : Int) then (if ((rd_T33 x8 x14).f0) = ((rd_T34 x11 x14).f0) then (if ((rd_T33 x8 x14).f1).toList = ((rd_T34 x11 x14).f1).toList then (if ((rd_T33 x8 x14).f2) = ((rd_T34 x11 x14).f2) then (archivistlaw07_LexWords.l0 k x7 x8 x11 (wrap64 (x14 + 1))) else (none)) else (none)) else (none)) else (none)) else (none)) else ((lex_Ops.f).bind fun t412 => ((archivistref07_Ops.f).bind fun t415 => (archivistlaw07_LexWords.l1 k x7 t412 t415 0)))
def archivistlaw07_LexWords.l1 : Nat → Bool → List ByteArray → List ByteArray → Int → Option (Bool)
  | 0, _, _, _, _ => none
  | k + 1, x7, x15, x16, x17 => if x17 < (x15.length : Int) then (archivistlaw07_LexWords.j4 k x7 x15 x16 x17 (decide (x17 < (x16.length : Int)))) else (archivistlaw07_LexWords.j4 k x7 x15 x16 x17 false)
def archivistlaw07_LexWords.j4 : Nat → Bool → List ByteArray → List ByteArray → Int → Bool → Option (Bool)
  | 0, _, _, _, _, _ => none
  | k + 1, x7, x15, x16, x17, x105 => if x105 = true then (if 0 ≤ x17 then (if x17 < (x15.length : Int) then (if x17 < (x16.length : Int) then (if (rdOf ByteArray.empty x15 x17).toList = (rdOf ByteArray.empty x16 x17).toList then (archivistlaw07_LexWords.l1 k x7 x15 x16 (wrap64 (x17 + 1))) else (none)) else (none)) else (none)) else (none)) else (if x7 = true then (some ((x15.length : Int) == (x16.length : Int))) else (none))
end
def archivistlaw07_LexWords.f (k : Nat) (a0 : ByteArray) (a1 : Bool) (l2 : List Int) : Option (Bool) := (archivistlaw07_examples.f k).bind fun t394 => (if t394 = true then (if a1 = true then ((archivistlaw07_words.f k l2).bind fun t395 => (archivistlaw07_LexWords.j0 k t395 t394)) else (archivistlaw07_LexWords.j0 k a0 t394)) else (none))
theorem archivistlaw07_LexWords.mono_l : ∀ k, (∀ y0 y1, LeO (archivistlaw07_LexWords.j0 k y0 y1) (archivistlaw07_LexWords.j0 (k + 1) y0 y1)) ∧ (∀ y0 y1 y2 y3, LeO (archivistlaw07_LexWords.j1 k y0 y1 y2 y3) (archivistlaw07_LexWords.j1 (k + 1) y0 y1 y2 y3)) ∧ (∀ y0 y1 y2 y3, LeO (archivistlaw07_LexWords.l0 k y0 y1 y2 y3) (archivistlaw07_LexWords.l0 (k + 1) y0 y1 y2 y3)) ∧ (∀ y0 y1 y2 y3, LeO (archivistlaw07_LexWords.l1 k y0 y1 y2 y3) (archivistlaw07_LexWords.l1 (k + 1) y0 y1 y2 y3)) ∧ (∀ y0 y1 y2 y3 y4, LeO (archivistlaw07_LexWords.j4 k y0 y1 y2 y3 y4) (archivistlaw07_LexWords.j4 (k + 1) y0 y1 y2 y3 y4))
  | 0 => ⟨fun _ _ r h => by simp [archivistlaw07_LexWords.j0] at h, fun _ _ _ _ r h => by simp [archivistlaw07_LexWords.j1] at h, fun _ _ _ _ r h => by simp [archivistlaw07_LexWords.l0] at h, fun _ _ _ _ r h => by simp [archivistlaw07_LexWords.l1] at h, fun _ _ _ _ _ r h => by simp [archivistlaw07_LexWords.j4] at h⟩
  | k + 1 => by
    obtain ⟨ih0, ih1, ih2, ih3, ih4⟩ := archivistlaw07_LexWords.mono_l k
    refine ⟨?_, ?_, ?_, ?_, ?_⟩
    · intro y0 y1
      unfold archivistlaw07_LexWords.j0
      repeat' first
      | (with_reducible exact ih0 _ _)
      | (with_reducible exact ih1 _ _ _ _)
      | (with_reducible exact ih2 _ _ _ _)
      | (with_reducible exact ih3 _ _ _ _)
      | (with_reducible exact ih4 _ _ _ _ _)
      | (with_reducible exact archivistlaw07_examples.mono _)
      | (with_reducible exact archivistlaw07_words.mono _ _)
      | (with_reducible exact archivistref07_All.mono _ _)
      | (with_reducible exact lex_All.mono _ _)
      | (with_reducible exact LeO.refl _)
      | (with_reducible exact LeO.none _)
      | (with_reducible refine LeO.ite ?_ ?_)
      | (with_reducible refine LeO.bind ?_ (fun _ => ?_))
      | exact ih0 _ _
      | exact ih1 _ _ _ _
      | exact ih2 _ _ _ _
      | exact ih3 _ _ _ _
      | exact ih4 _ _ _ _ _
      | exact archivistlaw07_examples.mono _
      | exact archivistlaw07_words.mono _ _
      | exact archivistref07_All.mono _ _
      | exact lex_All.mono _ _
      | exact LeO.none _
      | refine LeO.ite ?_ ?_
      | refine LeO.bind ?_ (fun _ => ?_)
    · intro y0 y1 y2 y3
      unfold archivistlaw07_LexWords.j1
      repeat' first
      | (with_reducible exact ih0 _ _)
      | (with_reducible exact ih1 _ _ _ _)
      | (with_reducible exact ih2 _ _ _ _)
      | (with_reducible exact ih3 _ _ _ _)
      | (with_reducible exact ih4 _ _ _ _ _)
      | (with_reducible exact archivistlaw07_examples.mono _)
      | (with_reducible exact archivistlaw07_words.mono _ _)
      | (with_reducible exact archivistref07_All.mono _ _)
      | (with_reducible exact lex_All.mono _ _)
      | (with_reducible exact LeO.refl _)
      | (with_reducible exact LeO.none _)
      | (with_reducible refine LeO.ite ?_ ?_)
      | (with_reducible refine LeO.bind ?_ (fun _ => ?_))
      | exact ih0 _ _
      | exact ih1 _ _ _ _
      | exact ih2 _ _ _ _
      | exact ih3 _ _ _ _
      | exact ih4 _ _ _ _ _
      | exact archivistlaw07_examples.mono _
      | exact archivistlaw07_words.mono _ _
      | exact archivistref07_All.mono _ _
      | exact lex_All.mono _ _
      | exact LeO.none _
      | refine LeO.ite ?_ ?_
      | refine LeO.bind ?_ (fun _ => ?_)
    · intro y0 y1 y2 y3
      unfold archivistlaw07_LexWords.l0
      repeat' first
      | (with_reducible exact ih0 _ _)
      | (with_reducible exact ih1 _ _ _ _)
      | (with_reducible exact ih2 _ _ _ _)
      | (with_reducible exact ih3 _ _ _ _)
      | (with_reducible exact ih4 _ _ _ _ _)
      | (with_reducible exact archivistlaw07_examples.mono _)
      | (with_reducible exact archivistlaw07_words.mono _ _)
      | (with_reducible exact archivistref07_All.mono _ _)
      | (with_reducible exact lex_All.mono _ _)
      | (with_reducible exact LeO.refl _)
      | (with_reducible exact LeO.none _)
      | (with_reducible refine LeO.ite ?_ ?_)
      | (with_reducible refine LeO.bind ?_ (fun _ => ?_))
      | exact ih0 _ _
      | exact ih1 _ _ _ _
      | exact ih2 _ _ _ _
      | exact ih3 _ _ _ _
      | exact ih4 _ _ _ _ _
      | exact archivistlaw07_examples.mono _
      | exact archivistlaw07_words.mono _ _
      | exact archivistref07_All.mono _ _
      | exact lex_All.mono _ _
      | exact LeO.none _
      | refine LeO.ite ?_ ?_
      | refine LeO.bind ?_ (fun _ => ?_)
    · intro y0 y1 y2 y3
      unfold archivistlaw07_LexWords.l1
      repeat' first
      | (with_reducible exact ih0 _ _)
      | (with_reducible exact ih1 _ _ _ _)
      | (with_reducible exact ih2 _ _ _ _)
      | (with_reducible exact ih3 _ _ _ _)
      | (with_reducible exact ih4 _ _ _ _ _)
      | (with_reducible exact archivistlaw07_examples.mono _)
      | (with_reducible exact archivistlaw07_words.mono _ _)
      | (with_reducible exact archivistref07_All.mono _ _)
      | (with_reducible exact lex_All.mono _ _)
      | (with_reducible exact LeO.refl _)
      | (with_reducible exact LeO.none _)
      | (with_reducible refine LeO.ite ?_ ?_)
      | (with_reducible refine LeO.bind ?_ (fun _ => ?_))
      | exact ih0 _ _
      | exact ih1 _ _ _ _
      | exact ih2 _ _ _ _
      | exact ih3 _ _ _ _
      | exact ih4 _ _ _ _ _
      | exact archivistlaw07_examples.mono _
      | exact archivistlaw07_words.mono _ _
      | exact archivistref07_All.mono _ _
      | exact lex_All.mono _ _
      | exact LeO.none _
      | refine LeO.ite ?_ ?_
      | refine LeO.bind ?_ (fun _ => ?_)
    · intro y0 y1 y2 y3 y4
      unfold archivistlaw07_LexWords.j4
      repeat' first
      | (with_reducible exact ih0 _ _)
      | (with_reducible exact ih1 _ _ _ _)
      | (with_reducible exact ih2 _ _ _ _)
      | (with_reducible exact ih3 _ _ _ _)
      | (with_reducible exact ih4 _ _ _ _ _)
      | (with_reducible exact archivistlaw07_examples.mono _)
      | (with_reducible exact archivistlaw07_words.mono _ _)
      | (with_reducible exact archivistref07_All.mono _ _)
      | (with_reducible exact lex_All.mono _ _)
      | (with_reducible exact LeO.refl _)
      | (with_reducible exact LeO.none _)
      | (with_reducible refine LeO.ite ?_ ?_)
      | (with_reducible refine LeO.bind ?_ (fun _ => ?_))
      | exact ih0 _ _
      | exact ih1 _ _ _ _
      | exact ih2 _ _ _ _
      | exact ih3 _ _ _ _
      | exact ih4 _ _ _ _ _
      | exact archivistlaw07_examples.mono _
      | exact archivistlaw07_words.mono _ _
      | exact archivistref07_All.mono _ _
      | exact lex_All.mono _ _
      | exact LeO.none _
      | refine LeO.ite ?_ ?_
      | refine LeO.bind ?_ (fun _ => ?_)
theorem archivistlaw07_LexWords.mono : ∀ a0 a1 a2 k, LeO (archivistlaw07_LexWords.f k a0 a1 a2) (archivistlaw07_LexWords.f (k + 1) a0 a1 a2) := by
  intro a0 a1 a2 k
  obtain ⟨ih0, ih1, ih2, ih3, ih4⟩ := archivistlaw07_LexWords.mono_l k
  unfold archivistlaw07_LexWords.f
  repeat' first
      | (with_reducible exact ih0 _ _)
      | (with_reducible exact ih1 _ _ _ _)
      | (with_reducible exact ih2 _ _ _ _)
      | (with_reducible exact ih3 _ _ _ _)
      | (with_reducible exact ih4 _ _ _ _ _)
      | (with_reducible exact archivistlaw07_examples.mono _)
      | (with_reducible exact archivistlaw07_words.mono _ _)
      | (with_reducible exact archivistref07_All.mono _ _)
      | (with_reducible exact lex_All.mono _ _)
      | (with_reducible exact LeO.refl _)
      | (with_reducible exact LeO.none _)
      | (with_reducible refine LeO.ite ?_ ?_)
      | (with_reducible refine LeO.bind ?_ (fun _ => ?_))
      | exact ih0 _ _
      | exact ih1 _ _ _ _
      | exact ih2 _ _ _ _
      | exact ih3 _ _ _ _
      | exact ih4 _ _ _ _ _
      | exact archivistlaw07_examples.mono _
      | exact archivistlaw07_words.mono _ _
      | exact archivistref07_All.mono _ _
      | exact lex_All.mono _ _
      | exact LeO.none _
      | refine LeO.ite ?_ ?_
      | refine LeO.bind ?_ (fun _ => ?_)
set_option maxHeartbeats 8000000 in
set_option maxRecDepth 100000 in
theorem archivistlaw07_LexWords.calls (k : Nat) (a0 : ByteArray) (a1 : Bool) (A2 : Option Addr) (c2 : Nat) (l2 : List Int) (r : Bool) (w : World) (hr2 : Kd.C (Kd.int .u8) w A2 l2.length l2) (hc2 : l2.length ≤ c2) (h : archivistlaw07_LexWords.f k a0 a1 l2 = some r) :
    Calls Try.prog 3 #[.string a0, .bool a1, .slice A2 l2.length c2] w fun e w' => e = .returned (.bool r) ∧ Below w.heap.size w w' := by
  have HR2 := Aside0.mk hr2
  have HC2 := Aside0.mk hc2
  clear hr2 hc2
  have HB := Aside0.mk (Below.refl w.heap.size w)
  have H : ((archivistlaw07_examples.f k).bind fun t394 => (if t394 = true then (if a1 = true then ((archivistlaw07_words.f k l2).bind fun t395 => (archivistlaw07_LexWords.j0 k t395 t394)) else (archivistlaw07_LexWords.j0 k a0 t394)) else (none))) = some r := h
  clear h
  replace H := Option.bind_eq_some_iff.mp H
  obtain ⟨t394, A40, H⟩ := H
  replace H : (if t394 = true then (if a1 = true then ((archivistlaw07_words.f k l2).bind fun t395 => (archivistlaw07_LexWords.j0 k t395 t394)) else (archivistlaw07_LexWords.j0 k a0 t394)) else (none)) = some r := H
  have A4 := Aside0.mk A40
  clear A40
  by_cases c5 : t394 = true
  · subst c5
    have H1 : (if a1 = true then ((archivistlaw07_words.f k l2).bind fun t395 => (archivistlaw07_LexWords.j0 k t395 true)) else (archivistlaw07_LexWords.j0 k a0 true)) = some r := by rw [if_pos rfl] at H; exact H
    clear H
    have H := H1
    clear H1
    have HC6 := Aside0.mk H
    clear H
    go_enter Try.func3, Try.ntmps3
    go_upto_if 21 with (first | (go_at_call 15; (with_reducible refine (archivistlaw07_examples.calls k  true _ A4.out).mono ?_); rintro e w7 ⟨rfl, hb⟩; have n0_ := Aside0.mk (below_step (by repeat (first | (with_reducible first | exact HB.out | apply below_alloc | apply pw_below_drewN | apply below_drew1) | exact HB.out)) hb); clear HB; have HB := n0_; clear n0_; (try clear hb); (try clear hb2); (try clear hk); (try clear hi)))
    repeat (go_quiet (first | (go_at_call 15; (with_reducible refine (archivistlaw07_examples.calls k  true _ A4.out).mono ?_); rintro e w7 ⟨rfl, hb⟩; have n0_ := Aside0.mk (below_step (by repeat (first | (with_reducible first | exact HB.out | apply below_alloc | apply pw_below_drewN | apply below_drew1) | exact HB.out)) hb); clear HB; have HB := n0_; clear n0_; (try clear hb); (try clear hb2); (try clear hk); (try clear hi))); go_upto_if 21 with (first | (go_at_call 15; (with_reducible refine (archivistlaw07_examples.calls k  true _ A4.out).mono ?_); rintro e w7 ⟨rfl, hb⟩; have n0_ := Aside0.mk (below_step (by repeat (first | (with_reducible first | exact HB.out | apply below_alloc | apply pw_below_drewN | apply below_drew1) | exact HB.out)) hb); clear HB; have HB := n0_; clear n0_; (try clear hb); (try clear hb2); (try clear hk); (try clear hi))))
    (try simp only [Act.put, List.setIfInBounds_toArray, List.set_cons_zero, List.set_cons_succ])
    go_cut [0] (fun v0 wc => ∃ (kq : Nat) (x0_5 : ByteArray), v0 = .string x0_5 ∧ Aside0 (archivistlaw07_LexWords.j0 kq x0_5 true = some r) ∧ Aside0 (kq ≤ k) ∧ Aside0 (Below w.heap.size w wc))
    case first =>
      have H := HC6.out
      clear HC6
      by_cases c8 : a1 = true
      · subst c8
        have H1 : ((archivistlaw07_words.f k l2).bind fun t395 => (archivistlaw07_LexWords.j0 k t395 true)) = some r := by rw [if_pos rfl] at H; exact H
        clear H
        have H := H1
        clear H1
        replace H := Option.bind_eq_some_iff.mp H
        obtain ⟨t395, A90, H⟩ := H
        replace H : (archivistlaw07_LexWords.j0 k t395 true) = some r := H
        have A9 := Aside0.mk A90
        clear A90
        have H' := Aside0.mk H
        clear H
        go_wp2_with (first | (go_at_call 16; (with_reducible refine (archivistlaw07_words.calls k _ _ l2 t395 _ ?side1 ?side2 A9.out).mono ?_); (case side1 => repeat (first | exact (Kd.C_below HR2.out HB.out) | (with_reducible refine Kd.C_alloc ?_ _) | (with_reducible refine Kd.C_drewN ?_ _) | (with_reducible refine Kd.C_drew ?_))); (case side2 => exact HC2.out); rintro e w10 ⟨rfl, hb⟩; have n0_ := Aside0.mk (below_step (by repeat (first | (with_reducible first | exact HB.out | apply below_alloc | apply pw_below_drewN | apply below_drew1) | exact HB.out)) hb); clear HB; have HB := n0_; clear n0_; (try clear hb); (try clear hb2); (try clear hk); (try clear hi)))
        repeat (go_quiet (first | (go_at_call 16; (with_reducible refine (archivistlaw07_words.calls k _ _ l2 t395 _ ?side1 ?side2 A9.out).mono ?_); (case side1 => repeat (first | exact (Kd.C_below HR2.out HB.out) | (with_reducible refine Kd.C_alloc ?_ _) | (with_reducible refine Kd.C_drewN ?_ _) | (with_reducible refine Kd.C_drew ?_))); (case side2 => exact HC2.out); rintro e w10 ⟨rfl, hb⟩; have n0_ := Aside0.mk (below_step (by repeat (first | (with_reducible first | exact HB.out | apply below_alloc | apply pw_below_drewN | apply below_drew1) | exact HB.out)) hb); clear HB; have HB := n0_; clear n0_; (try clear hb); (try clear hb2); (try clear hk); (try clear hi))); try go_wp2_with (first | (go_at_call 16; (with_reducible refine (archivistlaw07_words.calls k _ _ l2 t395 _ ?side1 ?side2 A9.out).mono ?_); (case side1 => repeat (first | exact (Kd.C_below HR2.out HB.out) | (with_reducible refine Kd.C_alloc ?_ _) | (with_reducible refine Kd.C_drewN ?_ _) | (with_reducible refine Kd.C_drew ?_))); (case side2 => exact HC2.out); rintro e w10 ⟨rfl, hb⟩; have n0_ := Aside0.mk (below_step (by repeat (first | (with_reducible first | exact HB.out | apply below_alloc | apply pw_below_drewN | apply below_drew1) | exact HB.out)) hb); clear HB; have HB := n0_; clear n0_; (try clear hb); (try clear hb2); (try clear hk); (try clear hi))))
        go_meet
        case rel => exact ⟨_, (t395), (by first | rfl | (simp; done) | (simp [*]; done)), H', ⟨by first | omega | exact Nat.le_refl _⟩, ⟨by repeat (first | (with_reducible first | exact HB.out | apply below_alloc | apply pw_below_drewN | apply below_drew1) | exact HB.out)⟩⟩
      · replace c8 := Bool.eq_false_iff.mpr c8
        subst c8
        have H1 : (archivistlaw07_LexWords.j0 k a0 true) = some r := by rw [if_neg (show ¬ (false = true) by decide)] at H; exact H
        clear H
        have H := H1
        clear H1
        have H' := Aside0.mk H
        clear H
        go_wp2
        repeat (go_quiet (fail); try go_wp2)
        go_meet
        case rel => exact ⟨_, (a0), (by first | rfl | (simp; done) | (simp [*]; done)), H', ⟨by first | omega | exact Nat.le_refl _⟩, ⟨by repeat (first | (with_reducible first | exact HB.out | apply below_alloc | apply pw_below_drewN | apply below_drew1) | exact HB.out)⟩⟩
    case rest =>
      clear HC6
      try clear c2
      try clear p2
      try clear c3
      try clear c5
      try clear c8
      obtain ⟨kq, x0_5, rfl, HA, HJ5, HB⟩ := hcut
      cases kq with
      | zero => exact absurd HA.out (by simp [archivistlaw07_LexWords.j0])
      | succ kj5 =>
        have H := HA.out
        clear HA
        simp only [archivistlaw07_LexWords.j0] at H
        replace H := Option.bind_eq_some_iff.mp H
        obtain ⟨⟨t396, t397, t398⟩, A110, H⟩ := H
        replace H : ((archivistref07_All.f kj5 x0_5).bind fun bt401 => (if (t396.length : Int) = (bt401.1.length : Int) then (if t397 = bt401.2.1 then (archivistlaw07_LexWords.j1 kj5 true t396 bt401.1 (t398 != bt401.2.2)) else (archivistlaw07_LexWords.j1 kj5 true t396 bt401.1 true)) else (archivistlaw07_LexWords.j1 kj5 true t396 bt401.1 true))) = some r := H
        have A11 := Aside0.mk A110
        clear A110
        replace H := Option.bind_eq_some_iff.mp H
        obtain ⟨⟨t401, t402, t403⟩, A120, H⟩ := H
        replace H : (if (t396.length : Int) = (t401.length : Int) then (if t397 = t402 then (archivistlaw07_LexWords.j1 kj5 true t396 t401 (t398 != t403)) else (archivistlaw07_LexWords.j1 kj5 true t396 t401 true)) else (archivistlaw07_LexWords.j1 kj5 true t396 t401 true)) = some r := H
        have A12 := Aside0.mk A120
        clear A120
        have HC13 := Aside0.mk H
        clear H
        go_upto_region 8 with (first | (go_at_call 17; (with_reducible refine (lex_All.calls kj5 x0_5 t396 t397 t398 _ A11.out).mono ?_); rintro e w14 ⟨v399, rfl, ho0, hb⟩; have n0_ := Aside0.mk (Kd.R_lower ho0 (below_size (by repeat (first | (with_reducible first | exact HB.out | apply below_alloc | apply pw_below_drewN | apply below_drew1) | exact HB.out)))); have n1_ := Aside0.mk (below_step (by repeat (first | (with_reducible first | exact HB.out | apply below_alloc | apply pw_below_drewN | apply below_drew1) | exact HB.out)) hb); clear HB; have HO400 := n0_; have HB := n1_; clear n0_ n1_; (try clear hb); (try clear hb2); (try clear hk); (try clear hi); (try clear ho0)) | (go_at_call 18; (with_reducible refine (archivistref07_All.calls kj5 x0_5 t401 t402 t403 _ A12.out).mono ?_); rintro e w15 ⟨v404, rfl, ho0, hb⟩; have n0_ := Aside0.mk (Kd.R_below (by (with_reducible repeat (first | apply Kd.R_alloc | apply Kd.R_drewN | apply Kd.R_drew)); exact HO400.out) hb); have n1_ := Aside0.mk (Kd.R_lower ho0 (below_size (by repeat (first | (with_reducible first | exact HB.out | apply below_alloc | apply pw_below_drewN | apply below_drew1) | exact HB.out)))); have n2_ := Aside0.mk (below_step (by repeat (first | (with_reducible first | exact HB.out | apply below_alloc | apply pw_below_drewN | apply below_drew1) | exact HB.out)) hb); clear HO400; clear HB; have HO400 := n0_; have HO405 := n1_; have HB := n2_; clear n0_ n1_ n2_; (try clear hb); (try clear hb2); (try clear hk); (try clear hi); (try clear ho0)))
        repeat (go_quiet (first | (go_at_call 17; (with_reducible refine (lex_All.calls kj5 x0_5 t396 t397 t398 _ A11.out).mono ?_); rintro e w14 ⟨v399, rfl, ho0, hb⟩; have n0_ := Aside0.mk (Kd.R_lower ho0 (below_size (by repeat (first | (with_reducible first | exact HB.out | apply below_alloc | apply pw_below_drewN | apply below_drew1) | exact HB.out)))); have n1_ := Aside0.mk (below_step (by repeat (first | (with_reducible first | exact HB.out | apply below_alloc | apply pw_below_drewN | apply below_drew1) | exact HB.out)) hb); clear HB; have HO400 := n0_; have HB := n1_; clear n0_ n1_; (try clear hb); (try clear hb2); (try clear hk); (try clear hi); (try clear ho0)) | (go_at_call 18; (with_reducible refine (archivistref07_All.calls kj5 x0_5 t401 t402 t403 _ A12.out).mono ?_); rintro e w15 ⟨v404, rfl, ho0, hb⟩; have n0_ := Aside0.mk (Kd.R_below (by (with_reducible repeat (first | apply Kd.R_alloc | apply Kd.R_drewN | apply Kd.R_drew)); exact HO400.out) hb); have n1_ := Aside0.mk (Kd.R_lower ho0 (below_size (by repeat (first | (with_reducible first | exact HB.out | apply below_alloc | apply pw_below_drewN | apply below_drew1) | exact HB.out)))); have n2_ := Aside0.mk (below_step (by repeat (first | (with_reducible first | exact HB.out | apply below_alloc | apply pw_below_drewN | apply below_drew1) | exact HB.out)) hb); clear HO400; clear HB; have HO400 := n0_; have HO405 := n1_; have HB := n2_; clear n0_ n1_ n2_; (try clear hb); (try clear hb2); (try clear hk); (try clear hi); (try clear ho0))); go_upto_region 8 with (first | (go_at_call 17; (with_reducible refine (lex_All.calls kj5 x0_5 t396 t397 t398 _ A11.out).mono ?_); rintro e w14 ⟨v399, rfl, ho0, hb⟩; have n0_ := Aside0.mk (Kd.R_lower ho0 (below_size (by repeat (first | (with_reducible first | exact HB.out | apply below_alloc | apply pw_below_drewN | apply below_drew1) | exact HB.out)))); have n1_ := Aside0.mk (below_step (by repeat (first | (with_reducible first | exact HB.out | apply below_alloc | apply pw_below_drewN | apply below_drew1) | exact HB.out)) hb); clear HB; have HO400 := n0_; have HB := n1_; clear n0_ n1_; (try clear hb); (try clear hb2); (try clear hk); (try clear hi); (try clear ho0)) | (go_at_call 18; (with_reducible refine (archivistref07_All.calls kj5 x0_5 t401 t402 t403 _ A12.out).mono ?_); rintro e w15 ⟨v404, rfl, ho0, hb⟩; have n0_ := Aside0.mk (Kd.R_below (by (with_reducible repeat (first | apply Kd.R_alloc | apply Kd.R_drewN | apply Kd.R_drew)); exact HO400.out) hb); have n1_ := Aside0.mk (Kd.R_lower ho0 (below_size (by repeat (first | (with_reducible first | exact HB.out | apply below_alloc | apply pw_below_drewN | apply below_drew1) | exact HB.out)))); have n2_ := Aside0.mk (below_step (by repeat (first | (with_reducible first | exact HB.out | apply below_alloc | apply pw_below_drewN | apply below_drew1) | exact HB.out)) hb); clear HO400; clear HB; have HO400 := n0_; have HO405 := n1_; have HB := n2_; clear n0_ n1_ n2_; (try clear hb); (try clear hb2); (try clear hk); (try clear hi); (try clear ho0))))
        (try simp only [Act.put, List.setIfInBounds_toArray, List.set_cons_zero, List.set_cons_succ])
        go_cut [50] (fun v50 wc => ∃ (kq : Nat) (x50_12 : Bool), v50 = .bool x50_12 ∧ Aside0 (archivistlaw07_LexWords.j1 kq true t396 t401 x50_12 = some r) ∧ Aside0 (kq ≤ kj5) ∧ Aside0 (Kd.R k33 33 wc w.heap.size (fun _ => True) v399 t396) ∧ Aside0 (Kd.R k34 34 wc w.heap.size (fun _ => True) v404 t401) ∧ Aside0 (Below w.heap.size w wc))
        case first =>
          have H := HC13.out
          clear HC13
          by_cases c16 : (t396.length : Int) = (t401.length : Int)
          · rw [if_pos c16] at H
            have c16b0 : ((t396.length : Int) == (t401.length : Int)) = true := beq_iff_eq.mpr c16
            have c16b1 : ((t396.length : Int) != (t401.length : Int)) = false := bne_eq_false_iff_eq.mpr c16
            have c16b2 : (t396.length == t401.length) = true := by first | simpa using c16 | (simp at c16 ⊢; omega)
            clear c16
            (first | rw [c16b0] | (simp only [i64_w, i32_w]; rw [c16b0]) | skip)
            by_cases c17 : t397 = t402
            · rw [if_pos c17] at H
              have c17b0 : (t397 == t402) = true := beq_iff_eq.mpr c17
              have c17b1 : (t397 != t402) = false := bne_eq_false_iff_eq.mpr c17
              clear c17
              have H' := Aside0.mk H
              clear H
              obtain ⟨Ao18, co18, eo18⟩ := Kd.R_slice HO400.out
              subst eo18
              obtain ⟨Ao19, co19, eo19⟩ := Kd.R_slice HO405.out
              subst eo19
              go_wp2
              repeat (go_quiet (fail); try go_wp2)
              go_meet
              case rel => exact ⟨_, ((t398 != t403)), (by first | rfl | (simp; done) | (simp [*]; done)), H', ⟨by have := HJ5.out; first | omega | exact Nat.le_refl _⟩, ⟨by (with_reducible repeat (first | apply Kd.R_alloc | apply Kd.R_drewN | apply Kd.R_drew)); exact HO400.out⟩, ⟨by (with_reducible repeat (first | apply Kd.R_alloc | apply Kd.R_drewN | apply Kd.R_drew)); exact HO405.out⟩, ⟨by repeat (first | (with_reducible first | exact HB.out | apply below_alloc | apply pw_below_drewN | apply below_drew1) | exact HB.out)⟩⟩
            · rw [if_neg c17] at H
              have c17b0 : (t397 == t402) = false := beq_eq_false_iff_ne.mpr c17
              have c17b1 : (t397 != t402) = true := bne_iff_ne.mpr c17
              have H' := Aside0.mk H
              clear H
              obtain ⟨Ao20, co20, eo20⟩ := Kd.R_slice HO400.out
              subst eo20
              obtain ⟨Ao21, co21, eo21⟩ := Kd.R_slice HO405.out
              subst eo21
              go_wp2
              repeat (go_quiet (fail); try go_wp2)
              go_meet
              case rel => exact ⟨_, (true), (by first | rfl | (simp; done) | (simp [*]; done)), H', ⟨by have := HJ5.out; first | omega | exact Nat.le_refl _⟩, ⟨by (with_reducible repeat (first | apply Kd.R_alloc | apply Kd.R_drewN | apply Kd.R_drew)); exact HO400.out⟩, ⟨by (with_reducible repeat (first | apply Kd.R_alloc | apply Kd.R_drewN | apply Kd.R_drew)); exact HO405.out⟩, ⟨by repeat (first | (with_reducible first | exact HB.out | apply below_alloc | apply pw_below_drewN | apply below_drew1) | exact HB.out)⟩⟩
          · rw [if_neg c16] at H
            have c16b0 : ((t396.length : Int) == (t401.length : Int)) = false := beq_eq_false_iff_ne.mpr c16
            have c16b1 : ((t396.length : Int) != (t401.length : Int)) = true := bne_iff_ne.mpr c16
            have c16b2 : (t396.length == t401.length) = false := by first | simpa using c16 | (simp at c16 ⊢; omega)
            (first | rw [c16b0] | (simp only [i64_w, i32_w]; rw [c16b0]) | skip)
            have H' := Aside0.mk H
            clear H
            obtain ⟨Ao22, co22, eo22⟩ := Kd.R_slice HO400.out
            subst eo22
            obtain ⟨Ao23, co23, eo23⟩ := Kd.R_slice HO405.out
            subst eo23
            go_wp2
            repeat (go_quiet (fail); try go_wp2)
            go_meet
            case rel => exact ⟨_, (true), (by first | rfl | (simp; done) | (simp [*]; done)), H', ⟨by have := HJ5.out; first | omega | exact Nat.le_refl _⟩, ⟨by (with_reducible repeat (first | apply Kd.R_alloc | apply Kd.R_drewN | apply Kd.R_drew)); exact HO400.out⟩, ⟨by (with_reducible repeat (first | apply Kd.R_alloc | apply Kd.R_drewN | apply Kd.R_drew)); exact HO405.out⟩, ⟨by repeat (first | (with_reducible first | exact HB.out | apply below_alloc | apply pw_below_drewN | apply below_drew1) | exact HB.out)⟩⟩
        case rest =>
          clear HC13
          try clear c1
          try clear c2
          try clear p2
          try clear c3
          try clear c5
          try clear c8
          try clear c16
          try clear c16b0
          try clear c16b1
          try clear c16b2
          try clear c17
          try clear c17b0
          try clear c17b1
          try clear p2
          obtain ⟨kq, x50_12, rfl, HA, HJ12, HO_8, HO_11, HB⟩ := hcut
          cases kq with
          | zero => exact absurd HA.out (by simp [archivistlaw07_LexWords.j1])
          | succ kj12 =>
            have H := HA.out
            clear HA
            simp only [archivistlaw07_LexWords.j1] at H
            by_cases c24 : x50_12 = true
            · subst c24
              have H1 : (none) = some r := by rw [if_pos rfl] at H; exact H
              clear H
              have H := H1
              clear H1
              exact absurd H (by simp)
            · replace c24 := Bool.eq_false_iff.mpr c24
              subst c24
              have H1 : (archivistlaw07_LexWords.l0 kj12 true t396 t401 0) = some r := by rw [if_neg (show ¬ (false = true) by decide)] at H; exact H
              clear H
              have H := H1
              clear H1
              have H' := Aside0.mk H
              clear H
              go_wp2
              repeat (go_quiet (fail); try go_wp2)
              go_loopg [14] kj12 (fun kq v14 w' => ∃ (x14_3 : Int), v14 = .int .i64 x14_3 ∧ Aside0 (archivistlaw07_LexWords.l0 kq true t396 t401 x14_3 = some r) ∧ Aside0 (kq ≤ kj12) ∧ Aside0 (Kd.R k33 33 w' w.heap.size (fun _ => True) v399 t396) ∧ Aside0 (Kd.R k34 34 w' w.heap.size (fun _ => True) v404 t401) ∧ Aside0 (Below w.heap.size w w'))
              case atStart => exact ⟨(0), (by first | rfl | (simp; done) | (simp [*]; done)), H', ⟨Nat.le_refl _⟩, ⟨by (with_reducible repeat (first | apply Kd.R_alloc | apply Kd.R_drewN | apply Kd.R_drew)); exact HO_8.out⟩, ⟨by (with_reducible repeat (first | apply Kd.R_alloc | apply Kd.R_drewN | apply Kd.R_drew)); exact HO_11.out⟩, ⟨by repeat (first | (with_reducible first | exact HB.out | apply below_alloc | apply pw_below_drewN | apply below_drew1) | exact HB.out)⟩⟩
              case round =>
                clear H'
                try clear c1
                try clear c2
                try clear p2
                try clear c3
                try clear c5
                try clear c8
                try clear c16
                try clear c16b0
                try clear c16b1
                try clear c16b2
                try clear c17
                try clear c17b0
                try clear c17b1
                try clear c24
                try clear p2
                obtain ⟨x14_3, rfl, HA, HK3, HO_8, HO_11, HB⟩ := hrel
                cases gk with
                | zero => exact absurd HA.out (by simp [archivistlaw07_LexWords.l0])
                | succ k3 =>
                  have H := HA.out
                  clear HA
                  simp only [archivistlaw07_LexWords.l0] at H
                  by_cases c25 : x14_3 < (t396.length : Int)
                  · rw [if_pos c25] at H
                    have c25b0 : decide (x14_3 < (t396.length : Int)) = true := decide_eq_true c25
                    clear c25
                    by_cases c26 : 0 ≤ x14_3
                    · rw [if_pos c26] at H
                      have c26b0 : decide (0 ≤ x14_3) = true := decide_eq_true c26
                      clear c26
                      by_cases c27 : x14_3 < (t401.length : Int)
                      · rw [if_pos c27] at H
                        have c27b0 : decide (x14_3 < (t401.length : Int)) = true := decide_eq_true c27
                        clear c27
                        by_cases c28 : ((rd_T33 t396 x14_3).f0) = ((rd_T34 t401 x14_3).f0)
                        · rw [if_pos c28] at H
                          have c28b0 : (((rd_T33 t396 x14_3).f0) == ((rd_T34 t401 x14_3).f0)) = true := beq_iff_eq.mpr c28
                          have c28b1 : (((rd_T33 t396 x14_3).f0) != ((rd_T34 t401 x14_3).f0)) = false := bne_eq_false_iff_eq.mpr c28
                          clear c28
                          by_cases c29 : ((rd_T33 t396 x14_3).f1).toList = ((rd_T34 t401 x14_3).f1).toList
                          · rw [if_pos c29] at H
                            have c29b0 : (((rd_T33 t396 x14_3).f1).toList == ((rd_T34 t401 x14_3).f1).toList) = true := beq_iff_eq.mpr c29
                            have c29b1 : (((rd_T33 t396 x14_3).f1).toList != ((rd_T34 t401 x14_3).f1).toList) = false := bne_eq_false_iff_eq.mpr c29
                            clear c29
                            by_cases c30 : ((rd_T33 t396 x14_3).f2) = ((rd_T34 t401 x14_3).f2)
                            · rw [if_pos c30] at H
                              have c30b0 : (((rd_T33 t396 x14_3).f2) == ((rd_T34 t401 x14_3).f2)) = true := beq_iff_eq.mpr c30
                              have c30b1 : (((rd_T33 t396 x14_3).f2) != ((rd_T34 t401 x14_3).f2)) = false := bne_eq_false_iff_eq.mpr c30
                              clear c30
                              have H' := Aside0.mk H
                              clear H
                              obtain ⟨Ao31, co31, eo31⟩ := Kd.R_slice HO_8.out
                              subst eo31
                              have p406 : 0 ≤ (x14_3 : Int) := of_decide_eq_true (by first | (with_reducible assumption) | assumption)
                              have q406 : x14_3 < (t396.length : Int) := of_decide_eq_true (by first | (with_reducible assumption) | assumption)
                              obtain ⟨ad406, e406, hx406_0, hx406_1, hx406_2⟩ := at_T33 (Kd.R_reads' HO_8.out).2.2 x14_3 p406 q406
                              cases e406
                              replace p406 := eq_true p406
                              replace q406 := eq_true q406
                              obtain ⟨Ao32, co32, eo32⟩ := Kd.R_slice HO_11.out
                              subst eo32
                              have p407 : 0 ≤ (x14_3 : Int) := of_decide_eq_true (by first | (with_reducible assumption) | assumption)
                              have q407 : x14_3 < (t401.length : Int) := of_decide_eq_true (by first | (with_reducible assumption) | assumption)
                              obtain ⟨ad407, e407, hx407_0, hx407_1, hx407_2⟩ := at_T34 (Kd.R_reads' HO_11.out).2.2 x14_3 p407 q407
                              cases e407
                              replace p407 := eq_true p407
                              replace q407 := eq_true q407
                              have p408 : 0 ≤ (x14_3 : Int) := of_decide_eq_true (by first | (with_reducible assumption) | assumption)
                              have q408 : x14_3 < (t396.length : Int) := of_decide_eq_true (by first | (with_reducible assumption) | assumption)
                              obtain ⟨ad408, e408, hx408_0, hx408_1, hx408_2⟩ := at_T33 (Kd.R_reads' HO_8.out).2.2 x14_3 p408 q408
                              obtain rfl : ad406 = ad408 := (by injection e408)
                              replace p408 := eq_true p408
                              replace q408 := eq_true q408
                              have p409 : 0 ≤ (x14_3 : Int) := of_decide_eq_true (by first | (with_reducible assumption) | assumption)
                              have q409 : x14_3 < (t401.length : Int) := of_decide_eq_true (by first | (with_reducible assumption) | assumption)
                              obtain ⟨ad409, e409, hx409_0, hx409_1, hx409_2⟩ := at_T34 (Kd.R_reads' HO_11.out).2.2 x14_3 p409 q409
                              obtain rfl : ad407 = ad409 := (by injection e409)
                              replace p409 := eq_true p409
                              replace q409 := eq_true q409
                              have p410 : 0 ≤ (x14_3 : Int) := of_decide_eq_true (by first | (with_reducible assumption) | assumption)
                              have q410 : x14_3 < (t396.length : Int) := of_decide_eq_true (by first | (with_reducible assumption) | assumption)
                              obtain ⟨ad410, e410, hx410_0, hx410_1, hx410_2⟩ := at_T33 (Kd.R_reads' HO_8.out).2.2 x14_3 p410 q410
                              obtain rfl : ad406 = ad410 := (by injection e410)
                              replace p410 := eq_true p410
                              replace q410 := eq_true q410
                              have p411 : 0 ≤ (x14_3 : Int) := of_decide_eq_true (by first | (with_reducible assumption) | assumption)
                              have q411 : x14_3 < (t401.length : Int) := of_decide_eq_true (by first | (with_reducible assumption) | assumption)
                              obtain ⟨ad411, e411, hx411_0, hx411_1, hx411_2⟩ := at_T34 (Kd.R_reads' HO_11.out).2.2 x14_3 p411 q411
                              obtain rfl : ad407 = ad411 := (by injection e411)
                              replace p411 := eq_true p411
                              replace q411 := eq_true q411
                              go_wp2
                              repeat (go_quiet (fail); try go_wp2)
                              go_roundg k3
                              case measure => have := HJ5.out; have := HJ12.out; have := HK3.out; omega
                              case rel => exact ⟨(wrap64 (x14_3 + 1)), (by first | rfl | (simp; done) | (simp [*]; done)), H', ⟨by have := HJ5.out; have := HJ12.out; have := HK3.out; omega⟩, ⟨by (with_reducible repeat (first | apply Kd.R_alloc | apply Kd.R_drewN | apply Kd.R_drew)); exact HO_8.out⟩, ⟨by (with_reducible repeat (first | apply Kd.R_alloc | apply Kd.R_drewN | apply Kd.R_drew)); exact HO_11.out⟩, ⟨by repeat (first | (with_reducible first | exact HB.out | apply below_alloc | apply pw_below_drewN | apply below_drew1) | exact HB.out)⟩⟩
                            · rw [if_neg c30] at H
                              exact absurd H (by simp)
                          · rw [if_neg c29] at H
                            exact absurd H (by simp)
                        · rw [if_neg c28] at H
                          exact absurd H (by simp)
                      · rw [if_neg c27] at H
                        exact absurd H (by simp)
                    · rw [if_neg c26] at H
                      exact absurd H (by simp)
                  · rw [if_neg c25] at H
                    have c25b0 : decide (x14_3 < (t396.length : Int)) = false := decide_eq_false c25
                    clear c25
                    replace H := Option.bind_eq_some_iff.mp H
                    obtain ⟨t412, A330, H⟩ := H
                    replace H : ((archivistref07_Ops.f).bind fun t415 => (archivistlaw07_LexWords.l1 k3 true t412 t415 0)) = some r := H
                    have A33 := Aside0.mk A330
                    clear A330
                    replace H := Option.bind_eq_some_iff.mp H
                    obtain ⟨t415, A340, H⟩ := H
                    replace H : (archivistlaw07_LexWords.l1 k3 true t412 t415 0) = some r := H
                    have A34 := Aside0.mk A340
                    clear A340
                    have H' := Aside0.mk H
                    clear H
                    obtain ⟨Ao35, co35, eo35⟩ := Kd.R_slice HO_8.out
                    subst eo35
                    go_wp2_with (first | (go_at_call 19; (with_reducible refine (lex_Ops.calls  t412 _ A33.out).mono ?_); rintro e w36 ⟨v413, rfl, ho0, hb⟩; have n0_ := Aside0.mk (Kd.R_below (by (with_reducible repeat (first | apply Kd.R_alloc | apply Kd.R_drewN | apply Kd.R_drew)); exact HO_8.out) hb); have n1_ := Aside0.mk (Kd.R_below (by (with_reducible repeat (first | apply Kd.R_alloc | apply Kd.R_drewN | apply Kd.R_drew)); exact HO_11.out) hb); have n2_ := Aside0.mk (Kd.R_lower ho0 (below_size (by repeat (first | (with_reducible first | exact HB.out | apply below_alloc | apply pw_below_drewN | apply below_drew1) | exact HB.out)))); have n3_ := Aside0.mk (below_step (by repeat (first | (with_reducible first | exact HB.out | apply below_alloc | apply pw_below_drewN | apply below_drew1) | exact HB.out)) hb); clear HO_8; clear HO_11; clear HB; have HO_8 := n0_; have HO_11 := n1_; have HO414 := n2_; have HB := n3_; clear n0_ n1_ n2_ n3_; (try clear hb); (try clear hb2); (try clear hk); (try clear hi); (try clear ho0)) | (go_at_call 20; (with_reducible refine (archivistref07_Ops.calls  t415 _ A34.out).mono ?_); rintro e w37 ⟨v416, rfl, ho0, hb⟩; have n0_ := Aside0.mk (Kd.R_below (by (with_reducible repeat (first | apply Kd.R_alloc | apply Kd.R_drewN | apply Kd.R_drew)); exact HO_8.out) hb); have n1_ := Aside0.mk (Kd.R_below (by (with_reducible repeat (first | apply Kd.R_alloc | apply Kd.R_drewN | apply Kd.R_drew)); exact HO_11.out) hb); have n2_ := Aside0.mk (Kd.R_elder' (by (with_reducible repeat (first | apply Kd.R_alloc | apply Kd.R_drewN | apply Kd.R_drew)); exact HO414.out) (Kd.R_base ho0) hb); have n3_ := Aside0.mk (Kd.R_lower (Kd.R_new' ho0 (Kd.R_lt (by (with_reducible repeat (first | apply Kd.R_alloc | apply Kd.R_drewN | apply Kd.R_drew)); exact HO414.out))) (below_size (by repeat (first | (with_reducible first | exact HB.out | apply below_alloc | apply pw_below_drewN | apply below_drew1) | exact HB.out)))); have n4_ := Aside0.mk (below_step (by repeat (first | (with_reducible first | exact HB.out | apply below_alloc | apply pw_below_drewN | apply below_drew1) | exact HB.out)) hb); clear HO_8; clear HO_11; clear HO414; clear HB; have HO_8 := n0_; have HO_11 := n1_; have HO414 := n2_; have HO417 := n3_; have HB := n4_; clear n0_ n1_ n2_ n3_ n4_; (try clear hb); (try clear hb2); (try clear hk); (try clear hi); (try clear ho0)))
                    repeat (go_quiet (first | (go_at_call 19; (with_reducible refine (lex_Ops.calls  t412 _ A33.out).mono ?_); rintro e w36 ⟨v413, rfl, ho0, hb⟩; have n0_ := Aside0.mk (Kd.R_below (by (with_reducible repeat (first | apply Kd.R_alloc | apply Kd.R_drewN | apply Kd.R_drew)); exact HO_8.out) hb); have n1_ := Aside0.mk (Kd.R_below (by (with_reducible repeat (first | apply Kd.R_alloc | apply Kd.R_drewN | apply Kd.R_drew)); exact HO_11.out) hb); have n2_ := Aside0.mk (Kd.R_lower ho0 (below_size (by repeat (first | (with_reducible first | exact HB.out | apply below_alloc | apply pw_below_drewN | apply below_drew1) | exact HB.out)))); have n3_ := Aside0.mk (below_step (by repeat (first | (with_reducible first | exact HB.out | apply below_alloc | apply pw_below_drewN | apply below_drew1) | exact HB.out)) hb); clear HO_8; clear HO_11; clear HB; have HO_8 := n0_; have HO_11 := n1_; have HO414 := n2_; have HB := n3_; clear n0_ n1_ n2_ n3_; (try clear hb); (try clear hb2); (try clear hk); (try clear hi); (try clear ho0)) | (go_at_call 20; (with_reducible refine (archivistref07_Ops.calls  t415 _ A34.out).mono ?_); rintro e w37 ⟨v416, rfl, ho0, hb⟩; have n0_ := Aside0.mk (Kd.R_below (by (with_reducible repeat (first | apply Kd.R_alloc | apply Kd.R_drewN | apply Kd.R_drew)); exact HO_8.out) hb); have n1_ := Aside0.mk (Kd.R_below (by (with_reducible repeat (first | apply Kd.R_alloc | apply Kd.R_drewN | apply Kd.R_drew)); exact HO_11.out) hb); have n2_ := Aside0.mk (Kd.R_elder' (by (with_reducible repeat (first | apply Kd.R_alloc | apply Kd.R_drewN | apply Kd.R_drew)); exact HO414.out) (Kd.R_base ho0) hb); have n3_ := Aside0.mk (Kd.R_lower (Kd.R_new' ho0 (Kd.R_lt (by (with_reducible repeat (first | apply Kd.R_alloc | apply Kd.R_drewN | apply Kd.R_drew)); exact HO414.out))) (below_size (by repeat (first | (with_reducible first | exact HB.out | apply below_alloc | apply pw_below_drewN | apply below_drew1) | exact HB.out)))); have n4_ := Aside0.mk (below_step (by repeat (first | (with_reducible first | exact HB.out | apply below_alloc | apply pw_below_drewN | apply below_drew1) | exact HB.out)) hb); clear HO_8; clear HO_11; clear HO414; clear HB; have HO_8 := n0_; have HO_11 := n1_; have HO414 := n2_; have HO417 := n3_; have HB := n4_; clear n0_ n1_ n2_ n3_ n4_; (try clear hb); (try clear hb2); (try clear hk); (try clear hi); (try clear ho0))); try go_wp2_with (first | (go_at_call 19; (with_reducible refine (lex_Ops.calls  t412 _ A33.out).mono ?_); rintro e w36 ⟨v413, rfl, ho0, hb⟩; have n0_ := Aside0.mk (Kd.R_below (by (with_reducible repeat (first | apply Kd.R_alloc | apply Kd.R_drewN | apply Kd.R_drew)); exact HO_8.out) hb); have n1_ := Aside0.mk (Kd.R_below (by (with_reducible repeat (first | apply Kd.R_alloc | apply Kd.R_drewN | apply Kd.R_drew)); exact HO_11.out) hb); have n2_ := Aside0.mk (Kd.R_lower ho0 (below_size (by repeat (first | (with_reducible first | exact HB.out | apply below_alloc | apply pw_below_drewN | apply below_drew1) | exact HB.out)))); have n3_ := Aside0.mk (below_step (by repeat (first | (with_reducible first | exact HB.out | apply below_alloc | apply pw_below_drewN | apply below_drew1) | exact HB.out)) hb); clear HO_8; clear HO_11; clear HB; have HO_8 := n0_; have HO_11 := n1_; have HO414 := n2_; have HB := n3_; clear n0_ n1_ n2_ n3_; (try clear hb); (try clear hb2); (try clear hk); (try clear hi); (try clear ho0)) | (go_at_call 20; (with_reducible refine (archivistref07_Ops.calls  t415 _ A34.out).mono ?_); rintro e w37 ⟨v416, rfl, ho0, hb⟩; have n0_ := Aside0.mk (Kd.R_below (by (with_reducible repeat (first | apply Kd.R_alloc | apply Kd.R_drewN | apply Kd.R_drew)); exact HO_8.out) hb); have n1_ := Aside0.mk (Kd.R_below (by (with_reducible repeat (first | apply Kd.R_alloc | apply Kd.R_drewN | apply Kd.R_drew)); exact HO_11.out) hb); have n2_ := Aside0.mk (Kd.R_elder' (by (with_reducible repeat (first | apply Kd.R_alloc | apply Kd.R_drewN | apply Kd.R_drew)); exact HO414.out) (Kd.R_base ho0) hb); have n3_ := Aside0.mk (Kd.R_lower (Kd.R_new' ho0 (Kd.R_lt (by (with_reducible repeat (first | apply Kd.R_alloc | apply Kd.R_drewN | apply Kd.R_drew)); exact HO414.out))) (below_size (by repeat (first | (with_reducible first | exact HB.out | apply below_alloc | apply pw_below_drewN | apply below_drew1) | exact HB.out)))); have n4_ := Aside0.mk (below_step (by repeat (first | (with_reducible first | exact HB.out | apply below_alloc | apply pw_below_drewN | apply below_drew1) | exact HB.out)) hb); clear HO_8; clear HO_11; clear HO414; clear HB; have HO_8 := n0_; have HO_11 := n1_; have HO414 := n2_; have HO417 := n3_; have HB := n4_; clear n0_ n1_ n2_ n3_ n4_; (try clear hb); (try clear hb2); (try clear hk); (try clear hi); (try clear ho0))))
                    go_loopg [17] k3 (fun kq v17 w' => ∃ (x17_4 : Int), v17 = .int .i64 x17_4 ∧ Aside0 (archivistlaw07_LexWords.l1 kq true t412 t415 x17_4 = some r) ∧ Aside0 (kq ≤ k3) ∧ Aside0 (Kd.R Kd.string 9 w' w.heap.size (fun k_ => some k_ ≠ (v416 : Value).ownBlock) v413 t412) ∧ Aside0 (Kd.R Kd.string 9 w' w.heap.size (fun k_ => some k_ ≠ (v413 : Value).ownBlock) v416 t415) ∧ Aside0 (Below w.heap.size w w'))
                    case atStart => exact ⟨(0), (by first | rfl | (simp; done) | (simp [*]; done)), H', ⟨Nat.le_refl _⟩, ⟨by (with_reducible repeat (first | apply Kd.R_alloc | apply Kd.R_drewN | apply Kd.R_drew)); exact Kd.R_mono HO414.out (fun _ hk => hk.2)⟩, ⟨by (with_reducible repeat (first | apply Kd.R_alloc | apply Kd.R_drewN | apply Kd.R_drew)); exact Kd.R_mono HO417.out (fun _ hk => hk.2)⟩, ⟨by repeat (first | (with_reducible first | exact HB.out | apply below_alloc | apply pw_below_drewN | apply below_drew1) | exact HB.out)⟩⟩
                    case round =>
                      clear H'
                      try clear c1
                      try clear c2
                      try clear p2
                      try clear c3
                      try clear p4
                      try clear q4
                      try clear hx4
                      try clear c5
                      try clear p6
                      try clear c8
                      try clear c16
                      try clear c16b0
                      try clear c16b1
                      try clear c16b2
                      try clear c17
                      try clear c17b0
                      try clear c17b1
                      try clear c24
                      try clear c25
                      try clear c25b0
                      try clear c26
                      try clear c26b0
                      try clear c27
                      try clear c27b0
                      try clear c28
                      try clear c28b0
                      try clear c28b1
                      try clear c29
                      try clear c29b0
                      try clear c29b1
                      try clear c30
                      try clear c30b0
                      try clear c30b1
                      try clear hx406_0
                      try clear hx406_1
                      try clear hx406_2
                      try clear hx407_0
                      try clear hx407_1
                      try clear hx407_2
                      try clear hx408_0
                      try clear hx408_1
                      try clear hx408_2
                      try clear hx409_0
                      try clear hx409_1
                      try clear hx409_2
                      try clear hx410_0
                      try clear hx410_1
                      try clear hx410_2
                      try clear hx411_0
                      try clear hx411_1
                      try clear hx411_2
                      try clear p2
                      try clear p406
                      try clear p407
                      try clear p408
                      try clear p409
                      try clear p410
                      try clear p411
                      try clear q406
                      try clear q407
                      try clear q408
                      try clear q409
                      try clear q410
                      try clear q411
                      obtain ⟨x17_4, rfl, HA, HK4, HO_15, HO_16, HB⟩ := hrel
                      cases gk with
                      | zero => exact absurd HA.out (by simp [archivistlaw07_LexWords.l1])
                      | succ k4 =>
                        have H := HA.out
                        clear HA
                        simp only [archivistlaw07_LexWords.l1] at H
                        have HC38 := Aside0.mk H
                        clear H
                        go_upto_region 18 with (fail)
                        repeat (go_quiet (fail); go_upto_region 18 with (fail))
                        go_cut [105] (fun v105 wc => ∃ (kq : Nat) (x105_37 : Bool), v105 = .bool x105_37 ∧ Aside0 (archivistlaw07_LexWords.j4 kq true t412 t415 x17_4 x105_37 = some r) ∧ Aside0 (kq ≤ k4) ∧ Aside0 (Kd.R Kd.string 9 wc w.heap.size (fun k_ => some k_ ≠ (v416 : Value).ownBlock) v413 t412) ∧ Aside0 (Kd.R Kd.string 9 wc w.heap.size (fun k_ => some k_ ≠ (v413 : Value).ownBlock) v416 t415) ∧ Aside0 (Below w.heap.size w wc))
                        case first =>
                          have H := HC38.out
                          clear HC38
                          by_cases c39 : x17_4 < (t412.length : Int)
                          · rw [if_pos c39] at H
                            have c39b0 : decide (x17_4 < (t412.length : Int)) = true := decide_eq_true c39
                            clear c39
                            (first | rw [c39b0] | (simp only [i64_w, i32_w]; rw [c39b0]) | skip)
                            have H' := Aside0.mk H
                            clear H
                            obtain ⟨Ao40, co40, eo40⟩ := Kd.R_slice HO_15.out
                            subst eo40
                            obtain ⟨Ao41, co41, eo41⟩ := Kd.R_slice HO_16.out
                            subst eo41
                            go_wp2
                            repeat (go_quiet (fail); try go_wp2)
                            go_meet
                            case rel => exact ⟨_, (decide (x17_4 < (t415.length : Int))), (by first | rfl | (simp; done) | (simp [*]; done)), H', ⟨by have := HJ5.out; have := HJ12.out; have := HK3.out; have := HK4.out; first | omega | exact Nat.le_refl _⟩, ⟨by (with_reducible repeat (first | apply Kd.R_alloc | apply Kd.R_drewN | apply Kd.R_drew)); exact HO_15.out⟩, ⟨by (with_reducible repeat (first | apply Kd.R_alloc | apply Kd.R_drewN | apply Kd.R_drew)); exact HO_16.out⟩, ⟨by repeat (first | (with_reducible first | exact HB.out | apply below_alloc | apply pw_below_drewN | apply below_drew1) | exact HB.out)⟩⟩
                          · rw [if_neg c39] at H
                            have c39b0 : decide (x17_4 < (t412.length : Int)) = false := decide_eq_false c39
                            clear c39
                            (first | rw [c39b0] | (simp only [i64_w, i32_w]; rw [c39b0]) | skip)
                            have H' := Aside0.mk H
                            clear H
                            obtain ⟨Ao42, co42, eo42⟩ := Kd.R_slice HO_15.out
                            subst eo42
                            go_wp2
                            repeat (go_quiet (fail); try go_wp2)
                            go_meet
                            case rel => exact ⟨_, (false), (by first | rfl | (simp; done) | (simp [*]; done)), H', ⟨by have := HJ5.out; have := HJ12.out; have := HK3.out; have := HK4.out; first | omega | exact Nat.le_refl _⟩, ⟨by (with_reducible repeat (first | apply Kd.R_alloc | apply Kd.R_drewN | apply Kd.R_drew)); exact HO_15.out⟩, ⟨by (with_reducible repeat (first | apply Kd.R_alloc | apply Kd.R_drewN | apply Kd.R_drew)); exact HO_16.out⟩, ⟨by repeat (first | (with_reducible first | exact HB.out | apply below_alloc | apply pw_below_drewN | apply below_drew1) | exact HB.out)⟩⟩
                        case rest =>
                          clear HC38
                          try clear c1
                          try clear c2
                          try clear p2
                          try clear c3
                          try clear p4
                          try clear q4
                          try clear hx4
                          try clear c5
                          try clear p6
                          try clear c8
                          try clear c16
                          try clear c16b0
                          try clear c16b1
                          try clear c16b2
                          try clear c17
                          try clear c17b0
                          try clear c17b1
                          try clear c24
                          try clear c25
                          try clear c25b0
                          try clear c26
                          try clear c26b0
                          try clear c27
                          try clear c27b0
                          try clear c28
                          try clear c28b0
                          try clear c28b1
                          try clear c29
                          try clear c29b0
                          try clear c29b1
                          try clear c30
                          try clear c30b0
                          try clear c30b1
                          try clear c39
                          try clear c39b0
                          try clear p40
                          try clear q40
                          try clear hx40
                          try clear p41
                          try clear q41
                          try clear hx41
                          try clear hx406_0
                          try clear hx406_1
                          try clear hx406_2
                          try clear hx407_0
                          try clear hx407_1
                          try clear hx407_2
                          try clear hx408_0
                          try clear hx408_1
                          try clear hx408_2
                          try clear hx409_0
                          try clear hx409_1
                          try clear hx409_2
                          try clear hx410_0
                          try clear hx410_1
                          try clear hx410_2
                          try clear hx411_0
                          try clear hx411_1
                          try clear hx411_2
                          try clear p2
                          try clear p4
                          try clear p406
                          try clear p407
                          try clear p408
                          try clear p409
                          try clear p410
                          try clear p411
                          try clear p6
                          try clear q4
                          try clear q406
                          try clear q407
                          try clear q408
                          try clear q409
                          try clear q410
                          try clear q411
                          obtain ⟨kq, x105_37, rfl, HA, HJ37, HO_15, HO_16, HB⟩ := hcut
                          cases kq with
                          | zero => exact absurd HA.out (by simp [archivistlaw07_LexWords.j4])
                          | succ kj37 =>
                            have H := HA.out
                            clear HA
                            simp only [archivistlaw07_LexWords.j4] at H
                            by_cases c43 : x105_37 = true
                            · subst c43
                              have H1 : (if 0 ≤ x17_4 then (if x17_4 < (t412.length : Int) then (if x17_4 < (t415.length : Int) then (if (rdOf ByteArray.empty t412 x17_4).toList = (rdOf ByteArray.empty t415 x17_4).toList then (archivistlaw07_LexWords.l1 kj37 true t412 t415 (wrap64 (x17_4 + 1))) else (none)) else (none)) else (none)) else (none)) = some r := by rw [if_pos rfl] at H; exact H
                              clear H
                              have H := H1
                              clear H1
                              by_cases c44 : 0 ≤ x17_4
                              · rw [if_pos c44] at H
                                have c44b0 : decide (0 ≤ x17_4) = true := decide_eq_true c44
                                clear c44
                                by_cases c45 : x17_4 < (t412.length : Int)
                                · rw [if_pos c45] at H
                                  have c45b0 : decide (x17_4 < (t412.length : Int)) = true := decide_eq_true c45
                                  clear c45
                                  by_cases c46 : x17_4 < (t415.length : Int)
                                  · rw [if_pos c46] at H
                                    have c46b0 : decide (x17_4 < (t415.length : Int)) = true := decide_eq_true c46
                                    clear c46
                                    by_cases c47 : (rdOf ByteArray.empty t412 x17_4).toList = (rdOf ByteArray.empty t415 x17_4).toList
                                    · rw [if_pos c47] at H
                                      have c47b0 : ((rdOf ByteArray.empty t412 x17_4).toList == (rdOf ByteArray.empty t415 x17_4).toList) = true := beq_iff_eq.mpr c47
                                      have c47b1 : ((rdOf ByteArray.empty t412 x17_4).toList != (rdOf ByteArray.empty t415 x17_4).toList) = false := bne_eq_false_iff_eq.mpr c47
                                      clear c47
                                      have H' := Aside0.mk H
                                      clear H
                                      obtain ⟨Ao48, co48, eo48⟩ := Kd.R_slice HO_15.out
                                      subst eo48
                                      have p418 : 0 ≤ (x17_4 : Int) := of_decide_eq_true (by first | (with_reducible assumption) | assumption)
                                      have q418 : x17_4 < (t412.length : Int) := of_decide_eq_true (by first | (with_reducible assumption) | assumption)
                                      obtain ⟨ad418, e418, hx418_0⟩ := Kd.at_string (Kd.R_reads' HO_15.out).2.2 x17_4 p418 q418
                                      cases e418
                                      replace p418 := eq_true p418
                                      replace q418 := eq_true q418
                                      obtain ⟨Ao49, co49, eo49⟩ := Kd.R_slice HO_16.out
                                      subst eo49
                                      have p419 : 0 ≤ (x17_4 : Int) := of_decide_eq_true (by first | (with_reducible assumption) | assumption)
                                      have q419 : x17_4 < (t415.length : Int) := of_decide_eq_true (by first | (with_reducible assumption) | assumption)
                                      obtain ⟨ad419, e419, hx419_0⟩ := Kd.at_string (Kd.R_reads' HO_16.out).2.2 x17_4 p419 q419
                                      cases e419
                                      replace p419 := eq_true p419
                                      replace q419 := eq_true q419
                                      go_wp2
                                      repeat (go_quiet (fail); try go_wp2)
                                      go_roundg kj37
                                      case measure => have := HJ5.out; have := HJ12.out; have := HK3.out; have := HK4.out; have := HJ37.out; omega
                                      case rel => exact ⟨(wrap64 (x17_4 + 1)), (by first | rfl | (simp; done) | (simp [*]; done)), H', ⟨by have := HJ5.out; have := HJ12.out; have := HK3.out; have := HK4.out; have := HJ37.out; omega⟩, ⟨by (with_reducible repeat (first | apply Kd.R_alloc | apply Kd.R_drewN | apply Kd.R_drew)); exact HO_15.out⟩, ⟨by (with_reducible repeat (first | apply Kd.R_alloc | apply Kd.R_drewN | apply Kd.R_drew)); exact HO_16.out⟩, ⟨by repeat (first | (with_reducible first | exact HB.out | apply below_alloc | apply pw_below_drewN | apply below_drew1) | exact HB.out)⟩⟩
                                    · rw [if_neg c47] at H
                                      exact absurd H (by simp)
                                  · rw [if_neg c46] at H
                                    exact absurd H (by simp)
                                · rw [if_neg c45] at H
                                  exact absurd H (by simp)
                              · rw [if_neg c44] at H
                                exact absurd H (by simp)
                            · replace c43 := Bool.eq_false_iff.mpr c43
                              subst c43
                              have H1 : (if true = true then (some ((t412.length : Int) == (t415.length : Int))) else (none)) = some r := by rw [if_neg (show ¬ (false = true) by decide)] at H; exact H
                              clear H
                              have H := H1
                              clear H1
                              by_cases c50 : true = true
                              · clear c50
                                have H1 : (some ((t412.length : Int) == (t415.length : Int))) = some r := by first | (rw [if_pos rfl] at H; exact H) | (rw [if_pos trivial] at H; exact H)
                                clear H
                                have H := H1
                                clear H1
                                obtain rfl := Option.some.inj H
                                obtain ⟨Ao51, co51, eo51⟩ := Kd.R_slice HO_15.out
                                subst eo51
                                obtain ⟨Ao52, co52, eo52⟩ := Kd.R_slice HO_16.out
                                subst eo52
                                go_wp2
                                repeat (go_quiet (fail); try go_wp2)
                                go_ret
                                exact ⟨by first | rfl | (simp [errW_none, errW_some] <;> rfl) | (simp [*, errW_none, errW_some] <;> rfl), by repeat (first | (with_reducible first | exact HB.out | apply below_alloc | apply pw_below_drewN | apply below_drew1) | exact HB.out)⟩
                              · exact absurd rfl c50
  · replace c5 := Bool.eq_false_iff.mpr c5
    subst c5
    have H1 : (none) = some r := by rw [if_neg (show ¬ (false = true) by decide)] at H; exact H
    clear H
    have H := H1
    clear H1
    exact absurd H (by simp)

/-- THE ONE PURE STATEMENT of archivistlaw07_LexWords: yours. -/
def archivistlaw07_LexWords.Pure : Prop := ∀ (a0 : ByteArray) (a1 : Bool) (l2 : List Int), a0.size ≤ 140737488351232 → l2.length ≤ maxLen → l2.length * 1 ≤ 140737488351232 → (∀ x ∈ l2, (Lit.int .u8 x).wf = true) → ∃ k, archivistlaw07_LexWords.f k a0 a1 l2 = some true
theorem archivistlaw07_LexWords.walk (P : archivistlaw07_LexWords.Pure) (a0 : ByteArray) (a1 : Bool) (a2 : Option Addr) (len2 cap2 : Nat) (z2 : List Int) (w : World) (w0 : a0.size ≤ 140737488351232) (w2 : (a2 = none ∧ len2 = 0 ∧ cap2 = 0 ∧ z2 = []) ∨ ∃ x, a2 = some x ∧ len2 ≤ cap2 ∧ cap2 ≤ maxLen ∧ z2.length = cap2 ∧ (∀ i, i < z2.length → w.cell? (x.add i) = some (.int .u8 (z2.getD i 0))) ∧ ∀ n ∈ z2, (Lit.int .u8 n).wf = true) (y2 : len2 * 1 ≤ 140737488351232) :
    Calls Try.prog 3 #[.string a0, .bool a1, .slice a2 len2 cap2] w fun e w' => e = .returned (.bool true) ∧ Below w.heap.size w w' := by
  obtain ⟨l2, rfl, hr2, hm2, hw2, hc2⟩ := ReadsInt.ofRowC w2
  obtain ⟨k, h⟩ := P a0 a1 l2 w0 hm2 y2 hw2
  refine (archivistlaw07_LexWords.calls k a0 a1 _ _ l2 true w (Kd.C_of_reads (d := (0 : Int)) (h1 := fun _ => rfl) hr2) hc2 h).mono ?_
  rintro e w' ⟨rfl, hd⟩
  exact ⟨rfl, hd⟩

end Go.Proofs.Ytifcnblgpnfehaa.X
