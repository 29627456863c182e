-- Laid by xprint.py, a program of this session's, out of the translation.
import Derived.Test.YtifcnblgpnfehaaX0
import Derived.Test.YtifcnblgpnfehaaX5
namespace Go.Proofs.Ytifcnblgpnfehaa.X
open Go.RowKit Go.Proofs.YtifcnblgpnfehaaW.PrintWords Go.Proofs.YtifcnblgpnfehaaW.PrintLast Go.Proofs.YtifcnblgpnfehaaW.PrintMore
attribute [local go_sem] max2_int min2_int max_two min_two max_three min_three max_four min_four x_isSome   -- for this text's walks alone
set_option linter.unusedVariables false
set_option linter.unusedSimpArgs false

/-! ### archivistlaw01_QuoteAmong: function 14 -/
mutual
def archivistlaw01_QuoteAmong.j0 : Nat → List ByteArray → Int → ByteArray → Bool → Bool → Option (Bool)
  | 0, _, _, _, _, _ => none
  | k + 1, x0, x1, x2, x7, x25 => if x25 = true then (if (x0.length : Int) = 0 then (none) else (if 0 ≤ (((Int.tdiv x1 2) % 256) % (x0.length : Int)) then (if (((Int.tdiv x1 2) % 256) % (x0.length : Int)) < (x0.length : Int) then (archivistlaw01_QuoteAmong.j1 k x0 (rdOf ByteArray.empty x0 (((Int.tdiv x1 2) % 256) % (x0.length : Int))) x7) else (none)) else (none))) else (archivistlaw01_QuoteAmong.j1 k x0 x2 x7)
def archivistlaw01_QuoteAmong.j1 : Nat → List ByteArray → ByteArray → Bool → Option (Bool)
  | 0, _, _, _ => none
  | k + 1, x0, x2, x7 => (quote_Among.f k x2 x0).bind fun t319 => (archivistlaw01_QuoteAmong.l0 k x0 x2 x7 t319 0)
def archivistlaw01_QuoteAmong.l0 : Nat → List ByteArray → ByteArray → Bool → Int → Int → Option (Bool)
  | 0, _, _, _, _, _ => none
  | k + 1, x0, x2, x7, x8, x9 => if x9 < (x0.length : Int) then (if 0 ≤ x9 then (if (rdOf ByteArray.empty x0 x9).toList = x2.toList then (if x8 < 0 then (none) else (if x9 < x8 then (none) else (archivistlaw01_QuoteAmong.l0 k x0 x2 x7 x8 (wrap64 (x9 + 1))))) else (archivistlaw01_QuoteAmong.l0 k x0 x2 x7 x8 (wrap64 (x9 + 1)))) else (none)) else (if x7 = true then (if x8 ≥ (-1) then (if x8 < (mx (x0.length : Int) 1) then (if x8 < 0 then (some true) else (if x8 < (x0.length : Int) then (if 0 ≤ x8 then (some ((rdOf ByteArray.empty x0 x8).toList == x2.toList)) else (none)) else (none))) else (none)) else (none)) else (none))
end
def archivistlaw01_QuoteAmong.f (k : Nat) (l0 : List ByteArray) (a1 : Int) (a2 : ByteArray) : Option (Bool) := (archivistlaw01_examples.f k).bind fun t316 => (if t316 = true then (if 0 ≤ (mn (l0.length : Int) 10) then (if (mn (l0.length : Int) 10) ≤ (l0.length : Int) then (if ((l0.take ((mn (l0.length : Int) 10) : Int).toNat).length : Int) > 0 then (archivistlaw01_QuoteAmong.j0 k (l0.take ((mn (l0.length : Int) 10) : Int).toNat) a1 a2 t316 ((Int.tmod a1 2) == 0)) else (archivistlaw01_QuoteAmong.j0 k (l0.take ((mn (l0.length : Int) 10) : Int).toNat) a1 a2 t316 false)) else (none)) else (none)) else (none))
theorem archivistlaw01_QuoteAmong.mono_l : ∀ k, (∀ y0 y1 y2 y3 y4, LeO (archivistlaw01_QuoteAmong.j0 k y0 y1 y2 y3 y4) (archivistlaw01_QuoteAmong.j0 (k + 1) y0 y1 y2 y3 y4)) ∧ (∀ y0 y1 y2, LeO (archivistlaw01_QuoteAmong.j1 k y0 y1 y2) (archivistlaw01_QuoteAmong.j1 (k + 1) y0 y1 y2)) ∧ (∀ y0 y1 y2 y3 y4, LeO (archivistlaw01_QuoteAmong.l0 k y0 y1 y2 y3 y4) (archivistlaw01_QuoteAmong.l0 (k + 1) y0 y1 y2 y3 y4))
  | 0 => ⟨fun _ _ _ _ _ r h => by simp [archivistlaw01_QuoteAmong.j0] at h, fun _ _ _ r h => by simp [archivistlaw01_QuoteAmong.j1] at h, fun _ _ _ _ _ r h => by simp [archivistlaw01_QuoteAmong.l0] at h⟩
  | k + 1 => by
    obtain ⟨ih0, ih1, ih2⟩ := archivistlaw01_QuoteAmong.mono_l k
    refine ⟨?_, ?_, ?_⟩
    · intro y0 y1 y2 y3 y4
      unfold archivistlaw01_QuoteAmong.j0
      repeat' first
      | (with_reducible exact ih0 _ _ _ _ _)
      | (with_reducible exact ih1 _ _ _)
      | (with_reducible exact ih2 _ _ _ _ _)
      | (with_reducible exact archivistlaw01_examples.mono _)
      | (with_reducible exact quote_Among.mono _ _ _)
      | (with_reducible exact LeO.refl _)
      | (with_reducible exact LeO.none _)
      | (with_reducible refine LeO.ite ?_ ?_)
      | (with_reducible refine LeO.bind ?_ (fun _ => ?_))
      | exact ih0 _ _ _ _ _
      | exact ih1 _ _ _
      | exact ih2 _ _ _ _ _
      | exact archivistlaw01_examples.mono _
      | exact quote_Among.mono _ _ _
      | exact LeO.none _
      | refine LeO.ite ?_ ?_
      | refine LeO.bind ?_ (fun _ => ?_)
    · intro y0 y1 y2
      unfold archivistlaw01_QuoteAmong.j1
      repeat' first
      | (with_reducible exact ih0 _ _ _ _ _)
      | (with_reducible exact ih1 _ _ _)
      | (with_reducible exact ih2 _ _ _ _ _)
      | (with_reducible exact archivistlaw01_examples.mono _)
      | (with_reducible exact quote_Among.mono _ _ _)
      | (with_reducible exact LeO.refl _)
      | (with_reducible exact LeO.none _)
      | (with_reducible refine LeO.ite ?_ ?_)
      | (with_reducible refine LeO.bind ?_ (fun _ => ?_))
      | exact ih0 _ _ _ _ _
      | exact ih1 _ _ _
      | exact ih2 _ _ _ _ _
      | exact archivistlaw01_examples.mono _
      | exact quote_Among.mono _ _ _
      | exact LeO.none _
      | refine LeO.ite ?_ ?_
      | refine LeO.bind ?_ (fun _ => ?_)
    · intro y0 y1 y2 y3 y4
      unfold archivistlaw01_QuoteAmong.l0
      repeat' first
      | (with_reducible exact ih0 _ _ _ _ _)
      | (with_reducible exact ih1 _ _ _)
      | (with_reducible exact ih2 _ _ _ _ _)
      | (with_reducible exact archivistlaw01_examples.mono _)
      | (with_reducible exact quote_Among.mono _ _ _)
      | (with_reducible exact LeO.refl _)
      | (with_reducible exact LeO.none _)
      | (with_reducible refine LeO.ite ?_ ?_)
      | (with_reducible refine LeO.bind ?_ (fun _ => ?_))
      | exact ih0 _ _ _ _ _
      | exact ih1 _ _ _
      | exact ih2 _ _ _ _ _
      | exact archivistlaw01_examples.mono _
      | exact quote_Among.mono _ _ _
      | exact LeO.none _
      | refine LeO.ite ?_ ?_
      | refine LeO.bind ?_ (fun _ => ?_)
theorem archivistlaw01_QuoteAmong.mono : ∀ a0 a1 a2 k, LeO (archivistlaw01_QuoteAmong.f k a0 a1 a2) (archivistlaw01_QuoteAmong.f (k + 1) a0 a1 a2) := by
  intro a0 a1 a2 k
  obtain ⟨ih0, ih1, ih2⟩ := archivistlaw01_QuoteAmong.mono_l k
  unfold archivistlaw01_QuoteAmong.f
  repeat' first
      | (with_reducible exact ih0 _ _ _ _ _)
      | (with_reducible exact ih1 _ _ _)
      | (with_reducible exact ih2 _ _ _ _ _)
      | (with_reducible exact archivistlaw01_examples.mono _)
      | (with_reducible exact quote_Among.mono _ _ _)
      | (with_reducible exact LeO.refl _)
      | (with_reducible exact LeO.none _)
      | (with_reducible refine LeO.ite ?_ ?_)
      | (with_reducible refine LeO.bind ?_ (fun _ => ?_))
      | exact ih0 _ _ _ _ _
      | exact ih1 _ _ _
      | exact ih2 _ _ _ _ _
      | exact archivistlaw01_examples.mono _
      | exact quote_Among.mono _ _ _
      | exact LeO.none _
      | refine LeO.ite ?_ ?_
      | refine LeO.bind ?_ (fun _ => ?_)
set_option maxHeartbeats 8000000 in
set_option maxRecDepth 100000 in
theorem archivistlaw01_QuoteAmong.calls (k : Nat) (A0 : Option Addr) (c0 : Nat) (l0 : List ByteArray) (a1 : Int) (a2 : ByteArray) (r : Bool) (w : World) (hr0 : Kd.C Kd.string w A0 l0.length l0) (hc0 : l0.length ≤ c0) (h : archivistlaw01_QuoteAmong.f k l0 a1 a2 = some r) :
    Calls Try.prog 14 #[.slice A0 l0.length c0, .int .u8 a1, .string a2] w fun e w' => e = .returned (.bool r) ∧ Below w.heap.size w w' := by
  have HR0 := Aside0.mk hr0
  have HC0 := Aside0.mk hc0
  clear hr0 hc0
  have HB := Aside0.mk (Below.refl w.heap.size w)
  have H : ((archivistlaw01_examples.f k).bind fun t316 => (if t316 = true then (if 0 ≤ (mn (l0.length : Int) 10) then (if (mn (l0.length : Int) 10) ≤ (l0.length : Int) then (if ((l0.take ((mn (l0.length : Int) 10) : Int).toNat).length : Int) > 0 then (archivistlaw01_QuoteAmong.j0 k (l0.take ((mn (l0.length : Int) 10) : Int).toNat) a1 a2 t316 ((Int.tmod a1 2) == 0)) else (archivistlaw01_QuoteAmong.j0 k (l0.take ((mn (l0.length : Int) 10) : Int).toNat) a1 a2 t316 false)) else (none)) else (none)) else (none))) = some r := h
  clear h
  replace H := Option.bind_eq_some_iff.mp H
  obtain ⟨t316, A40, H⟩ := H
  replace H : (if t316 = true then (if 0 ≤ (mn (l0.length : Int) 10) then (if (mn (l0.length : Int) 10) ≤ (l0.length : Int) then (if ((l0.take ((mn (l0.length : Int) 10) : Int).toNat).length : Int) > 0 then (archivistlaw01_QuoteAmong.j0 k (l0.take ((mn (l0.length : Int) 10) : Int).toNat) a1 a2 t316 ((Int.tmod a1 2) == 0)) else (archivistlaw01_QuoteAmong.j0 k (l0.take ((mn (l0.length : Int) 10) : Int).toNat) a1 a2 t316 false)) else (none)) else (none)) else (none)) = some r := H
  have A4 := Aside0.mk A40
  clear A40
  by_cases c5 : t316 = true
  · subst c5
    have H1 : (if 0 ≤ (mn (l0.length : Int) 10) then (if (mn (l0.length : Int) 10) ≤ (l0.length : Int) then (if ((l0.take ((mn (l0.length : Int) 10) : Int).toNat).length : Int) > 0 then (archivistlaw01_QuoteAmong.j0 k (l0.take ((mn (l0.length : Int) 10) : Int).toNat) a1 a2 true ((Int.tmod a1 2) == 0)) else (archivistlaw01_QuoteAmong.j0 k (l0.take ((mn (l0.length : Int) 10) : Int).toNat) a1 a2 true false)) else (none)) else (none)) = some r := by rw [if_pos rfl] at H; exact H
    clear H
    have H := H1
    clear H1
    obtain ⟨ji6, hji6⟩ : ∃ j_ : Int, (mn (l0.length : Int) 10) = j_ := ⟨_, rfl⟩
    replace H : (if 0 ≤ (ji6) then (if (ji6) ≤ (l0.length : Int) then (if ((l0.take ((ji6) : Int).toNat).length : Int) > 0 then (archivistlaw01_QuoteAmong.j0 k (l0.take ((ji6) : Int).toNat) a1 a2 true ((Int.tmod a1 2) == 0)) else (archivistlaw01_QuoteAmong.j0 k (l0.take ((ji6) : Int).toNat) a1 a2 true false)) else (none)) else (none)) = some r := by first | (rw [hji6] at H; exact H) | (simp only [hji6] at H ⊢; exact H)
    (try rw [hji6] at A4)
    (try (have hji6h : ji6 ≤ 10 := by (rw [← hji6]; unfold mn; (repeat' split) <;> omega)))
    (try (have hji6g : ji6 ≤ 64 := by omega))
    (try (have hji6l : 0 ≤ ji6 := by (rw [← hji6]; unfold mn; (repeat' split) <;> omega)))
    (try (have hji6m : 0 ≤ ji6 := by omega))
    have hji6_ : (if 10 < (l0.length : Int) then 10 else (l0.length : Int)) = ji6 := hji6
    obtain ⟨lt6l0, hlt6l0⟩ : ∃ q_, (l0.take ((ji6) : Int).toNat) = q_ := ⟨_, rfl⟩
    replace H : (if 0 ≤ (ji6) then (if (ji6) ≤ (l0.length : Int) then (if (lt6l0.length : Int) > 0 then (archivistlaw01_QuoteAmong.j0 k lt6l0 a1 a2 true ((Int.tmod a1 2) == 0)) else (archivistlaw01_QuoteAmong.j0 k lt6l0 a1 a2 true false)) else (none)) else (none)) = some r := by first | (rw [hlt6l0] at H; exact H) | (simp only [hlt6l0] at H ⊢; exact H)
    by_cases c7 : 0 ≤ (ji6)
    · rw [if_pos c7] at H
      have c7b0 := eq_true c7
      have c7b1 : decide (0 ≤ (ji6)) = true := decide_eq_true c7
      clear c7
      by_cases c8 : (ji6) ≤ (l0.length : Int)
      · rw [if_pos c8] at H
        have c8b0 := eq_true c8
        have c8b1 : decide ((ji6) ≤ (l0.length : Int)) = true := decide_eq_true c8
        clear c8
        have HC9 := Aside0.mk H
        clear H
        go_enter Try.func14, Try.ntmps14
        go_upto_region 5 with (first | ((with_reducible refine gate_callee (f := 22) rfl ?_); refine goesL_ (some 10) rfl rfl Try.func22 (by kernel_rfl) rfl #[] rfl (by (try simp only [List.map_toArray, List.map_cons, List.map_nil]); first | done | rfl | (simp only [List.length_drop, List.length_take]; rfl)) ?_; (with_reducible refine (archivistlaw01_examples.calls k  true _ A4.out).mono ?_); rintro e w10 ⟨rfl, hb⟩; refine ⟨_, rfl, ?_⟩; have n0_ := Aside0.mk (below_step (by repeat (first | (with_reducible first | exact HB.out | apply below_alloc | apply pw_below_drewN | apply below_drew1) | exact HB.out)) hb); clear HB; have HB := n0_; clear n0_; (try clear hb); (try clear hb2); (try clear hk); (try clear hi); obtain ⟨i011, hi011, _, hsz11, _⟩ := info_parts info9; obtain ⟨hcut11, hA11, hC11⟩ := print_take_of (P := Try.prog) Value.string (⟨#[]⟩ : ByteArray) 35 9 .i64 Try.underlying35 hi011 hsz11 A0 c0 l0 (ji6) (of_decide_eq_true (by first | (with_reducible assumption) | assumption)) (of_decide_eq_true (by first | (with_reducible assumption) | assumption)) HC0.out; rw [hlt6l0] at hcut11 hA11 hC11; have HR317 := Aside0.mk (Kd.C_of_reads (h1 := fun _ => rfl) (hA11 _ (Kd.reads_of_C HR0.out))); have HC317 := Aside0.mk hC11; clear hA11 hC11 hi011 hsz11))
        (try simp only [Act.put, List.setIfInBounds_toArray, List.set_cons_zero, List.set_cons_succ])
        go_cut [25] (fun v25 wc => ∃ (kq : Nat) (x25_8 : Bool), v25 = .bool x25_8 ∧ Aside0 (archivistlaw01_QuoteAmong.j0 kq lt6l0 a1 a2 true x25_8 = some r) ∧ Aside0 (kq ≤ k) ∧ Aside0 (Below w.heap.size w wc))
        case first =>
          have H := HC9.out
          clear HC9
          by_cases c12 : (lt6l0.length : Int) > 0
          · rw [if_pos c12] at H
            have c12b0 : decide (0 < (lt6l0.length : Int)) = true := decide_eq_true c12
            have c12b1 : decide (0 < lt6l0.length) = true := decide_eq_true (by omega)
            clear c12
            (first | rw [c12b0] | (simp only [i64_w, i32_w]; rw [c12b0]) | skip)
            have H' := Aside0.mk H
            clear H
            go_wp2
            go_meet
            case rel => exact ⟨_, (((Int.tmod a1 2) == 0)), (by first | rfl | (simp; done) | (simp [*]; done)), H', ⟨by first | omega | exact Nat.le_refl _⟩, ⟨by repeat (first | (with_reducible first | exact HB.out | apply below_alloc | apply pw_below_drewN | apply below_drew1) | exact HB.out)⟩⟩
          · rw [if_neg c12] at H
            have c12b0 : decide (0 < (lt6l0.length : Int)) = false := decide_eq_false c12
            have c12b1 : decide (0 < lt6l0.length) = false := decide_eq_false (by omega)
            clear c12
            (first | rw [c12b0] | (simp only [i64_w, i32_w]; rw [c12b0]) | skip)
            have H' := Aside0.mk H
            clear H
            go_wp2
            go_meet
            case rel => exact ⟨_, (false), (by first | rfl | (simp; done) | (simp [*]; done)), H', ⟨by first | omega | exact Nat.le_refl _⟩, ⟨by repeat (first | (with_reducible first | exact HB.out | apply below_alloc | apply pw_below_drewN | apply below_drew1) | exact HB.out)⟩⟩
        case rest =>
          clear HC9
          try clear c1
          try clear c2
          try clear p2
          try clear c5
          try clear c7
          try clear c7b0
          try clear c7b1
          try clear c8
          try clear c8b0
          try clear c8b1
          try clear c12
          try clear c12b0
          try clear c12b1
          obtain ⟨kq, x25_8, rfl, HA, HJ8, HB⟩ := hcut
          cases kq with
          | zero => exact absurd HA.out (by simp [archivistlaw01_QuoteAmong.j0])
          | succ kj8 =>
            have H := HA.out
            clear HA
            simp only [archivistlaw01_QuoteAmong.j0] at H
            have HC13 := Aside0.mk H
            clear H
            go_upto_if 25 with (fail)
            go_cut [2] (fun v2 wc => ∃ (kq : Nat) (x2_12 : ByteArray), v2 = .string x2_12 ∧ Aside0 (archivistlaw01_QuoteAmong.j1 kq lt6l0 x2_12 true = some r) ∧ Aside0 (kq ≤ kj8) ∧ Aside0 (Below w.heap.size w wc))
            case first =>
              have H := HC13.out
              clear HC13
              by_cases c14 : x25_8 = true
              · subst c14
                have H1 : (if (lt6l0.length : Int) = 0 then (none) else (if 0 ≤ (((Int.tdiv a1 2) % 256) % (lt6l0.length : Int)) then (if (((Int.tdiv a1 2) % 256) % (lt6l0.length : Int)) < (lt6l0.length : Int) then (archivistlaw01_QuoteAmong.j1 kj8 lt6l0 (rdOf ByteArray.empty lt6l0 (((Int.tdiv a1 2) % 256) % (lt6l0.length : Int))) true) else (none)) else (none))) = some r := by rw [if_pos rfl] at H; exact H
                clear H
                have H := H1
                clear H1
                by_cases c15 : (lt6l0.length : Int) = 0
                · rw [if_pos c15] at H
                  exact absurd H (by simp)
                · rw [if_neg c15] at H
                  have c15b0 : ((lt6l0.length : Int) == 0) = false := beq_eq_false_iff_ne.mpr c15
                  have c15b1 : ((lt6l0.length : Int) != 0) = true := bne_iff_ne.mpr c15
                  have c15b2 : ¬ (lt6l0 = []) := fun h_ => c15 (by rw [h_]; rfl)
                  (first | rw [c15b0] | (simp only [i64_w, i32_w]; rw [c15b0]) | skip)
                  obtain ⟨ji16, hji16⟩ : ∃ j_ : Int, (((Int.tdiv a1 2) % 256) % (lt6l0.length : Int)) = j_ := ⟨_, rfl⟩
                  replace H : (if 0 ≤ (ji16) then (if (ji16) < (lt6l0.length : Int) then (archivistlaw01_QuoteAmong.j1 kj8 lt6l0 (rdOf ByteArray.empty lt6l0 (ji16)) true) else (none)) else (none)) = some r := by first | (rw [hji16] at H; exact H) | (simp only [hji16] at H ⊢; exact H)
                  by_cases c17 : 0 ≤ (ji16)
                  · rw [if_pos c17] at H
                    have c17b0 : decide (0 ≤ (ji16)) = true := decide_eq_true c17
                    clear c17
                    by_cases c18 : (ji16) < (lt6l0.length : Int)
                    · rw [if_pos c18] at H
                      have c18b0 : decide ((ji16) < (lt6l0.length : Int)) = true := decide_eq_true c18
                      clear c18
                      have H' := Aside0.mk H
                      clear H
                      have p318 : 0 ≤ ((ji16) : Int) := of_decide_eq_true (by first | (with_reducible assumption) | assumption)
                      have q318 : (ji16) < (lt6l0.length : Int) := of_decide_eq_true (by first | (with_reducible assumption) | assumption)
                      obtain ⟨ad318, e318, hx318_0⟩ := Kd.at_string HR317.out (ji16) p318 q318
                      cases e318
                      replace hx318_0 := (HB.out.cell (World.block_lt_of_cell? w _ hx318_0)).trans hx318_0
                      replace p318 := eq_true p318
                      replace q318 := eq_true q318
                      go_wp2
                      go_meet
                      case rel => exact ⟨_, (rdOf ByteArray.empty lt6l0 (ji16)), (by first | rfl | (simp; done) | (simp only [← hji6, ← hji16] <;> (first | rfl | simp)) | (simp [*]; done)), H', ⟨by have := HJ8.out; first | omega | exact Nat.le_refl _⟩, ⟨by repeat (first | (with_reducible first | exact HB.out | apply below_alloc | apply pw_below_drewN | apply below_drew1) | exact HB.out)⟩⟩
                    · rw [if_neg c18] at H
                      exact absurd H (by simp)
                  · rw [if_neg c17] at H
                    exact absurd H (by simp)
              · replace c14 := Bool.eq_false_iff.mpr c14
                subst c14
                have H1 : (archivistlaw01_QuoteAmong.j1 kj8 lt6l0 a2 true) = some r := by rw [if_neg (show ¬ (false = true) by decide)] at H; exact H
                clear H
                have H := H1
                clear H1
                have H' := Aside0.mk H
                clear H
                go_wp2
                go_meet
                case rel => exact ⟨_, (a2), (by first | rfl | (simp; done) | (simp [*]; done)), H', ⟨by have := HJ8.out; first | omega | exact Nat.le_refl _⟩, ⟨by repeat (first | (with_reducible first | exact HB.out | apply below_alloc | apply pw_below_drewN | apply below_drew1) | exact HB.out)⟩⟩
            case rest =>
              clear HC13
              try clear c1
              try clear c2
              try clear p2
              try clear p3
              try clear q3
              try clear hx3
              try clear c5
              try clear c7
              try clear c7b0
              try clear c7b1
              try clear c8
              try clear c8b0
              try clear c8b1
              try clear c12
              try clear c12b0
              try clear c12b1
              try clear c14
              try clear c15
              try clear c15b0
              try clear c15b1
              try clear c15b2
              try clear c17
              try clear c17b0
              try clear c18
              try clear c18b0
              try clear hx318_0
              try clear p2
              try clear p318
              try clear q318
              obtain ⟨kq, x2_12, rfl, HA, HJ12, HB⟩ := hcut
              cases kq with
              | zero => exact absurd HA.out (by simp [archivistlaw01_QuoteAmong.j1])
              | succ kj12 =>
                have H := HA.out
                clear HA
                simp only [archivistlaw01_QuoteAmong.j1] at H
                replace H := Option.bind_eq_some_iff.mp H
                obtain ⟨t319, A190, H⟩ := H
                replace H : (archivistlaw01_QuoteAmong.l0 kj12 lt6l0 x2_12 true t319 0) = some r := H
                have A19 := Aside0.mk A190
                clear A190
                have H' := Aside0.mk H
                clear H
                go_wp2_with (first | ((with_reducible refine gate_callee (f := 31) rfl ?_); refine goesL_ (some 37) rfl rfl Try.func31 (by kernel_rfl) rfl #[.string x2_12, .slice A0 lt6l0.length c0] rfl (by (try simp only [List.map_toArray, List.map_cons, List.map_nil]); first | done | (rw [show lt6l0.length = (ji6).toNat from (by rw [List.length_take]; have h_ : ((ji6) : Int) ≤ (l0.length : Int) := of_decide_eq_true (by first | (with_reducible assumption) | assumption); omega)] <;> rfl) | (simp only [hji6]; rfl) | rfl | (simp only [List.length_drop, List.length_take]; rfl)) ?_; (with_reducible refine (quote_Among.calls kj12 x2_12 _ _ lt6l0 t319 _ ?side1 ?side2 A19.out).mono ?_); (case side1 => repeat (first | exact (Kd.C_below HR317.out HB.out) | (with_reducible refine Kd.C_alloc ?_ _) | (with_reducible refine Kd.C_drewN ?_ _) | (with_reducible refine Kd.C_drew ?_))); (case side2 => exact HC317.out); rintro e w' ⟨rfl, ⟨nd, rfl⟩⟩; refine ⟨_, rfl, ?_⟩))
                go_loopg [9] kj12 (fun kq v9 w' => ∃ (x9_3 : Int), v9 = .int .i64 x9_3 ∧ Aside0 (archivistlaw01_QuoteAmong.l0 kq lt6l0 x2_12 true t319 x9_3 = some r) ∧ Aside0 (kq ≤ kj12) ∧ Aside0 (Below w.heap.size w w'))
                case atStart => exact ⟨(0), (by first | rfl | (simp; done) | (simp [*]; done)), H', ⟨Nat.le_refl _⟩, ⟨by repeat (first | (with_reducible first | exact HB.out | apply below_alloc | apply pw_below_drewN | apply below_drew1) | exact HB.out)⟩⟩
                case round =>
                  clear H'
                  try clear c1
                  try clear c2
                  try clear p2
                  try clear c3
                  try clear p3
                  try clear q3
                  try clear hx3
                  try clear c5
                  try clear c7
                  try clear c7b0
                  try clear c7b1
                  try clear c8
                  try clear c8b0
                  try clear c8b1
                  try clear c12
                  try clear c12b0
                  try clear c12b1
                  try clear c14
                  try clear c15
                  try clear c15b0
                  try clear c15b1
                  try clear c15b2
                  try clear c17
                  try clear c17b0
                  try clear c18
                  try clear c18b0
                  try clear hx318_0
                  try clear p2
                  try clear p3
                  try clear p318
                  try clear q3
                  try clear q318
                  obtain ⟨x9_3, rfl, HA, HK3, HB⟩ := hrel
                  cases gk with
                  | zero => exact absurd HA.out (by simp [archivistlaw01_QuoteAmong.l0])
                  | succ k3 =>
                    have H := HA.out
                    clear HA
                    simp only [archivistlaw01_QuoteAmong.l0] at H
                    by_cases c20 : x9_3 < (lt6l0.length : Int)
                    · rw [if_pos c20] at H
                      have c20b0 : decide (x9_3 < (lt6l0.length : Int)) = true := decide_eq_true c20
                      clear c20
                      by_cases c21 : 0 ≤ x9_3
                      · rw [if_pos c21] at H
                        have c21b0 : decide (0 ≤ x9_3) = true := decide_eq_true c21
                        clear c21
                        by_cases c22 : (rdOf ByteArray.empty lt6l0 x9_3).toList = x2_12.toList
                        · rw [if_pos c22] at H
                          have c22b0 : ((rdOf ByteArray.empty lt6l0 x9_3).toList == x2_12.toList) = true := beq_iff_eq.mpr c22
                          have c22b1 : ((rdOf ByteArray.empty lt6l0 x9_3).toList != x2_12.toList) = false := bne_eq_false_iff_eq.mpr c22
                          clear c22
                          by_cases c23 : t319 < 0
                          · rw [if_pos c23] at H
                            exact absurd H (by simp)
                          · rw [if_neg c23] at H
                            have c23b0 : decide (t319 < 0) = false := decide_eq_false c23
                            clear c23
                            by_cases c24 : x9_3 < t319
                            · rw [if_pos c24] at H
                              exact absurd H (by simp)
                            · rw [if_neg c24] at H
                              have c24b0 : decide (x9_3 < t319) = false := decide_eq_false c24
                              clear c24
                              have H' := Aside0.mk H
                              clear H
                              have p320 : 0 ≤ (x9_3 : Int) := of_decide_eq_true (by first | (with_reducible assumption) | assumption)
                              have q320 : x9_3 < (lt6l0.length : Int) := of_decide_eq_true (by first | (with_reducible assumption) | assumption)
                              obtain ⟨ad320, e320, hx320_0⟩ := Kd.at_string HR317.out x9_3 p320 q320
                              cases e320
                              replace hx320_0 := (HB.out.cell (World.block_lt_of_cell? w _ hx320_0)).trans hx320_0
                              replace p320 := eq_true p320
                              replace q320 := eq_true q320
                              go_wp2
                              go_roundg k3
                              case measure => have := HJ8.out; have := HJ12.out; have := HK3.out; omega
                              case rel => exact ⟨(wrap64 (x9_3 + 1)), (by first | rfl | (simp; done) | (simp [*]; done)), H', ⟨by have := HJ8.out; have := HJ12.out; have := HK3.out; omega⟩, ⟨by repeat (first | (with_reducible first | exact HB.out | apply below_alloc | apply pw_below_drewN | apply below_drew1) | exact HB.out)⟩⟩
                        · rw [if_neg c22] at H
                          have c22b0 : ((rdOf ByteArray.empty lt6l0 x9_3).toList == x2_12.toList) = false := beq_eq_false_iff_ne.mpr c22
                          have c22b1 : ((rdOf ByteArray.empty lt6l0 x9_3).toList != x2_12.toList) = true := bne_iff_ne.mpr c22
                          have H' := Aside0.mk H
                          clear H
                          have p320 : 0 ≤ (x9_3 : Int) := of_decide_eq_true (by first | (with_reducible assumption) | assumption)
                          have q320 : x9_3 < (lt6l0.length : Int) := of_decide_eq_true (by first | (with_reducible assumption) | assumption)
                          obtain ⟨ad320, e320, hx320_0⟩ := Kd.at_string HR317.out x9_3 p320 q320
                          cases e320
                          replace hx320_0 := (HB.out.cell (World.block_lt_of_cell? w _ hx320_0)).trans hx320_0
                          replace p320 := eq_true p320
                          replace q320 := eq_true q320
                          go_wp2
                          go_roundg k3
                          case measure => have := HJ8.out; have := HJ12.out; have := HK3.out; omega
                          case rel => exact ⟨(wrap64 (x9_3 + 1)), (by first | rfl | (simp; done) | (simp [*]; done)), H', ⟨by have := HJ8.out; have := HJ12.out; have := HK3.out; omega⟩, ⟨by repeat (first | (with_reducible first | exact HB.out | apply below_alloc | apply pw_below_drewN | apply below_drew1) | exact HB.out)⟩⟩
                      · rw [if_neg c21] at H
                        exact absurd H (by simp)
                    · rw [if_neg c20] at H
                      have c20b0 : decide (x9_3 < (lt6l0.length : Int)) = false := decide_eq_false c20
                      clear c20
                      by_cases c25 : true = true
                      · clear c25
                        have H1 : (if t319 ≥ (-1) then (if t319 < (mx (lt6l0.length : Int) 1) then (if t319 < 0 then (some true) else (if t319 < (lt6l0.length : Int) then (if 0 ≤ t319 then (some ((rdOf ByteArray.empty lt6l0 t319).toList == x2_12.toList)) else (none)) else (none))) else (none)) else (none)) = some r := by first | (rw [if_pos rfl] at H; exact H) | (rw [if_pos trivial] at H; exact H)
                        clear H
                        have H := H1
                        clear H1
                        by_cases c26 : t319 ≥ (-1)
                        · rw [if_pos c26] at H
                          have c26b0 : decide ((-1) ≤ t319) = true := decide_eq_true c26
                          clear c26
                          obtain ⟨ji27, hji27⟩ : ∃ j_ : Int, (mx (lt6l0.length : Int) 1) = j_ := ⟨_, rfl⟩
                          replace H : (if t319 < (ji27) then (if t319 < 0 then (some true) else (if t319 < (lt6l0.length : Int) then (if 0 ≤ t319 then (some ((rdOf ByteArray.empty lt6l0 t319).toList == x2_12.toList)) else (none)) else (none))) else (none)) = some r := by first | (rw [hji27] at H; exact H) | (simp only [hji27] at H ⊢; exact H)
                          have hji27_ : (if (lt6l0.length : Int) < 1 then 1 else (lt6l0.length : Int)) = ji27 := hji27
                          by_cases c28 : t319 < (ji27)
                          · rw [if_pos c28] at H
                            have c28b0 : decide (t319 < (ji27)) = true := decide_eq_true c28
                            clear c28
                            by_cases c29 : t319 < 0
                            · rw [if_pos c29] at H
                              have c29b0 : decide (t319 < 0) = true := decide_eq_true c29
                              clear c29
                              obtain rfl := Option.some.inj H
                              go_wp2
                              go_ret
                              exact ⟨by first | rfl | (simp [errW_none, errW_some] <;> rfl) | (simp only [← hji6, ← hji27]; first | rfl | (simp [errW_none, errW_some] <;> rfl)) | (simp [*, errW_none, errW_some] <;> rfl), by repeat (first | (with_reducible first | exact HB.out | apply below_alloc | apply pw_below_drewN | apply below_drew1) | exact HB.out)⟩
                            · rw [if_neg c29] at H
                              have c29b0 : decide (t319 < 0) = false := decide_eq_false c29
                              clear c29
                              by_cases c30 : t319 < (lt6l0.length : Int)
                              · rw [if_pos c30] at H
                                have c30b0 : decide (t319 < (lt6l0.length : Int)) = true := decide_eq_true c30
                                clear c30
                                by_cases c31 : 0 ≤ t319
                                · rw [if_pos c31] at H
                                  have c31b0 : decide (0 ≤ t319) = true := decide_eq_true c31
                                  clear c31
                                  obtain rfl := Option.some.inj H
                                  have p321 : 0 ≤ (t319 : Int) := of_decide_eq_true (by first | (with_reducible assumption) | assumption)
                                  have q321 : t319 < (lt6l0.length : Int) := of_decide_eq_true (by first | (with_reducible assumption) | assumption)
                                  obtain ⟨ad321, e321, hx321_0⟩ := Kd.at_string HR317.out t319 p321 q321
                                  cases e321
                                  replace hx321_0 := (HB.out.cell (World.block_lt_of_cell? w _ hx321_0)).trans hx321_0
                                  replace p321 := eq_true p321
                                  replace q321 := eq_true q321
                                  go_wp2
                                  go_ret
                                  exact ⟨by first | rfl | (simp [errW_none, errW_some] <;> rfl) | (simp only [← hji6, ← hji27]; first | rfl | (simp [errW_none, errW_some] <;> rfl)) | (simp [*, errW_none, errW_some] <;> rfl), by repeat (first | (with_reducible first | exact HB.out | apply below_alloc | apply pw_below_drewN | apply below_drew1) | exact HB.out)⟩
                                · rw [if_neg c31] at H
                                  exact absurd H (by simp)
                              · rw [if_neg c30] at H
                                exact absurd H (by simp)
                          · rw [if_neg c28] at H
                            exact absurd H (by simp)
                        · rw [if_neg c26] at H
                          exact absurd H (by simp)
                      · exact absurd rfl c25
      · rw [if_neg c8] at H
        exact absurd H (by simp)
    · rw [if_neg c7] at H
      exact absurd H (by simp)
  · replace c5 := Bool.eq_false_iff.mpr c5
    subst c5
    have H1 : (none) = some r := by rw [if_neg (show ¬ (false = true) by decide)] at H; exact H
    clear H
    have H := H1
    clear H1
    exact absurd H (by simp)

end Go.Proofs.Ytifcnblgpnfehaa.X
