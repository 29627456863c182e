-- Laid by xprint.py, a program of this session's, out of the translation.
import Derived.Test.YtbkhgldinmabiaaX0
import Derived.Test.YtbkhgldinmabiaaX6
import Derived.Test.YtbkhgldinmabiaaX7
import Derived.Test.YtbkhgldinmabiaaX9
import Derived.Test.YtbkhgldinmabiaaX10
import Derived.Test.YtbkhgldinmabiaaX14
import Derived.Test.YtbkhgldinmabiaaX15
import Derived.Test.YtbkhgldinmabiaaX16
import Derived.Test.YtbkhgldinmabiaaX18
import Derived.Test.YtbkhgldinmabiaaX21
import Derived.Test.YtbkhgldinmabiaaX24
import Derived.Test.YtbkhgldinmabiaaX26
namespace Go.Proofs.Ytbkhgldinmabiaa.X
open Go.RowKit Go.Proofs.YtbkhgldinmabiaaW.PrintWords Go.Proofs.YtbkhgldinmabiaaW.PrintLast Go.Proofs.YtbkhgldinmabiaaW.PrintMore
attribute [local go_sem] max2_int min2_int max_two min_two max_three min_three max_four min_four x_isSome x_str_gtr x_str_leq x_str_geq   -- for this text's walks alone
set_option linter.unusedVariables false
set_option linter.unusedSimpArgs false

/-! ### archivistlaw06_LabelParses: function 4 -/
mutual
def archivistlaw06_LabelParses.j0 : Nat → ByteArray → Int → Int → Int → Bool → List (S38) → Option (Bool)
 | 0, _, _, _, _, _, _ => none
 | k + 1, x1, x2, x3, x4, x11, x12 => (archivistref06_Text.f k x12).bind fun t478 => (if (Int.tmod x2 4) = 0 then (if t478.size + x1.size ≤ 9223372036854775807 then ((label_Parse.f k (t478 ++ x1)).bind fun bt479 => ((archivistref06_Parse.f k (t478 ++ x1)).bind fun bt484 => ((archivistlaw06_samePairs.f k bt479.1 bt484.1).bind fun t489 => (if x11 = true then (if t489 = true then (if bt479.2.1 = bt484.2.1 then (some (bt479.2.2 == bt484.2.2)) else (none)) else (none)) else (none))))) else (none)) else (if (Int.tmod x2 4) = 1 then (archivistlaw06_LabelParses.j1 k x1 x3 x4 x11 t478 ((Int.tmod x2 4) == 1)) else (archivistlaw06_LabelParses.j1 k x1 x3 x4 x11 t478 ((Int.tmod x2 4) == 2))))
def archivistlaw06_LabelParses.j1 : Nat → ByteArray → Int → Int → Bool → ByteArray → Bool → Option (Bool)
 | 0, _, _, _, _, _, _ => none
 | k + 1, x1, x3, x4, x11, x13, x43 => if x43 = true then ((archivistlaw06_bend.f x13 x3 x4).bind fun t490 => ((label_Parse.f k t490).bind fun bt491 => ((archivistref06_Parse.f k t490).bind fun bt496 => ((archivistlaw06_samePairs.f k bt491.1 bt496.1).bind fun t501 => (if x11 = true then (if t501 = true then (if bt491.2.1 = bt496.2.1 then (some (bt491.2.2 == bt496.2.2)) else (none)) else (none)) else (none)))))) else ((label_Parse.f k x1).bind fun bt502 => ((archivistref06_Parse.f k x1).bind fun bt507 => ((archivistlaw06_samePairs.f k bt502.1 bt507.1).bind fun t512 => (if x11 = true then (if t512 = true then (if bt502.2.1 = bt507.2.1 then (some (bt502.2.2 == bt507.2.2)) else (none)) else (none)) else (none)))))
end
def archivistlaw06_LabelParses.f (k : Nat) (l0 : List (S76)) (a1 : ByteArray) (a2 : Int) (a3 : Int) (a4 : Int) : Option (Bool) := (archivistlaw06_examples.f k).bind fun t462 => (if t462 = true then ((archivistlaw06_tags.f k l0 18).bind fun t463 => ((archivistlaw06_refPairs.f k t463).bind fun t466 => ((archivistref06_Of.f k t466).bind fun t469 => (if (Int.tmod a2 8) > 5 then ((archivistlaw06_tags.f k l0 18).bind fun t472 => ((archivistlaw06_refPairs.f k t472).bind fun t475 => (archivistlaw06_LabelParses.j0 k a1 a2 a3 a4 t462 t475))) else (archivistlaw06_LabelParses.j0 k a1 a2 a3 a4 t462 t469))))) else (none))
theorem archivistlaw06_LabelParses.mono_l : ∀ k, (∀ y0 y1 y2 y3 y4 y5, LeO (archivistlaw06_LabelParses.j0 k y0 y1 y2 y3 y4 y5) (archivistlaw06_LabelParses.j0 (k + 1) y0 y1 y2 y3 y4 y5)) ∧ (∀ y0 y1 y2 y3 y4 y5, LeO (archivistlaw06_LabelParses.j1 k y0 y1 y2 y3 y4 y5) (archivistlaw06_LabelParses.j1 (k + 1) y0 y1 y2 y3 y4 y5))
 | 0 => ⟨fun _ _ _ _ _ _ r h => by simp [archivistlaw06_LabelParses.j0] at h, fun _ _ _ _ _ _ r h => by simp [archivistlaw06_LabelParses.j1] at h⟩
 | k + 1 => by
  obtain ⟨ih0, ih1⟩ := archivistlaw06_LabelParses.mono_l k
  refine ⟨?_, ?_⟩
  ·intro y0 y1 y2 y3 y4 y5
   unfold archivistlaw06_LabelParses.j0
   repeat' first
   | (with_reducible exact ih0 _ _ _ _ _ _)
   | (with_reducible exact ih1 _ _ _ _ _ _)
   | (with_reducible exact archivistlaw06_examples.mono _)
   | (with_reducible exact archivistlaw06_refPairs.mono _ _)
   | (with_reducible exact archivistlaw06_samePairs.mono _ _ _)
   | (with_reducible exact archivistlaw06_tags.mono _ _ _)
   | (with_reducible exact archivistref06_Of.mono _ _)
   | (with_reducible exact archivistref06_Parse.mono _ _)
   | (with_reducible exact archivistref06_Text.mono _ _)
   | (with_reducible exact label_Parse.mono _ _)
   | (with_reducible exact LeO.refl _)
   | (with_reducible exact LeO.none _)
   | (with_reducible refine LeO.ite ?_ ?_)
   | (with_reducible refine LeO.bind ?_ (fun _ => ?_))
   | exact ih0 _ _ _ _ _ _
   | exact ih1 _ _ _ _ _ _
   | exact archivistlaw06_examples.mono _
   | exact archivistlaw06_refPairs.mono _ _
   | exact archivistlaw06_samePairs.mono _ _ _
   | exact archivistlaw06_tags.mono _ _ _
   | exact archivistref06_Of.mono _ _
   | exact archivistref06_Parse.mono _ _
   | exact archivistref06_Text.mono _ _
   | exact label_Parse.mono _ _
   | exact LeO.none _
   | refine LeO.ite ?_ ?_
   | refine LeO.bind ?_ (fun _ => ?_)
  ·intro y0 y1 y2 y3 y4 y5
   unfold archivistlaw06_LabelParses.j1
   repeat' first
   | (with_reducible exact ih0 _ _ _ _ _ _)
   | (with_reducible exact ih1 _ _ _ _ _ _)
   | (with_reducible exact archivistlaw06_examples.mono _)
   | (with_reducible exact archivistlaw06_refPairs.mono _ _)
   | (with_reducible exact archivistlaw06_samePairs.mono _ _ _)
   | (with_reducible exact archivistlaw06_tags.mono _ _ _)
   | (with_reducible exact archivistref06_Of.mono _ _)
   | (with_reducible exact archivistref06_Parse.mono _ _)
   | (with_reducible exact archivistref06_Text.mono _ _)
   | (with_reducible exact label_Parse.mono _ _)
   | (with_reducible exact LeO.refl _)
   | (with_reducible exact LeO.none _)
   | (with_reducible refine LeO.ite ?_ ?_)
   | (with_reducible refine LeO.bind ?_ (fun _ => ?_))
   | exact ih0 _ _ _ _ _ _
   | exact ih1 _ _ _ _ _ _
   | exact archivistlaw06_examples.mono _
   | exact archivistlaw06_refPairs.mono _ _
   | exact archivistlaw06_samePairs.mono _ _ _
   | exact archivistlaw06_tags.mono _ _ _
   | exact archivistref06_Of.mono _ _
   | exact archivistref06_Parse.mono _ _
   | exact archivistref06_Text.mono _ _
   | exact label_Parse.mono _ _
   | exact LeO.none _
   | refine LeO.ite ?_ ?_
   | refine LeO.bind ?_ (fun _ => ?_)
theorem archivistlaw06_LabelParses.mono : ∀ a0 a1 a2 a3 a4 k, LeO (archivistlaw06_LabelParses.f k a0 a1 a2 a3 a4) (archivistlaw06_LabelParses.f (k + 1) a0 a1 a2 a3 a4) := by
 intro a0 a1 a2 a3 a4 k
 obtain ⟨ih0, ih1⟩ := archivistlaw06_LabelParses.mono_l k
 unfold archivistlaw06_LabelParses.f
 repeat' first
   | (with_reducible exact ih0 _ _ _ _ _ _)
   | (with_reducible exact ih1 _ _ _ _ _ _)
   | (with_reducible exact archivistlaw06_examples.mono _)
   | (with_reducible exact archivistlaw06_refPairs.mono _ _)
   | (with_reducible exact archivistlaw06_samePairs.mono _ _ _)
   | (with_reducible exact archivistlaw06_tags.mono _ _ _)
   | (with_reducible exact archivistref06_Of.mono _ _)
   | (with_reducible exact archivistref06_Parse.mono _ _)
   | (with_reducible exact archivistref06_Text.mono _ _)
   | (with_reducible exact label_Parse.mono _ _)
   | (with_reducible exact LeO.refl _)
   | (with_reducible exact LeO.none _)
   | (with_reducible refine LeO.ite ?_ ?_)
   | (with_reducible refine LeO.bind ?_ (fun _ => ?_))
   | exact ih0 _ _ _ _ _ _
   | exact ih1 _ _ _ _ _ _
   | exact archivistlaw06_examples.mono _
   | exact archivistlaw06_refPairs.mono _ _
   | exact archivistlaw06_samePairs.mono _ _ _
   | exact archivistlaw06_tags.mono _ _ _
   | exact archivistref06_Of.mono _ _
   | exact archivistref06_Parse.mono _ _
   | exact archivistref06_Text.mono _ _
   | exact label_Parse.mono _ _
   | exact LeO.none _
   | refine LeO.ite ?_ ?_
   | refine LeO.bind ?_ (fun _ => ?_)
set_option maxHeartbeats 8000000 in
set_option maxRecDepth 100000 in
theorem archivistlaw06_LabelParses.calls (k : Nat) (A0 : Option Addr) (c0 : Nat) (l0 : List (S76)) (a1 : ByteArray) (a2 : Int) (a3 : Int) (a4 : Int) (r : Bool) (w : World) (hr0 : Kd.C k76 w A0 l0.length l0) (hc0 : l0.length ≤ c0) (h : archivistlaw06_LabelParses.f k l0 a1 a2 a3 a4 = some r) :
  Calls Try.prog 4 #[.slice A0 l0.length c0, .string a1, .int .u8 a2, .int .i64 a3, .int .u8 a4] w fun e w' => e = .returned (.bool r) ∧ Below w.heap.size w w' := by
 have HR0 := Aside0.mk hr0
 have HC0 := Aside0.mk hc0
 clear hr0 hc0
 have HB := Aside0.mk (Below.refl w.heap.size w)
 have H : ((archivistlaw06_examples.f k).bind fun t462 => (if t462 = true then ((archivistlaw06_tags.f k l0 18).bind fun t463 => ((archivistlaw06_refPairs.f k t463).bind fun t466 => ((archivistref06_Of.f k t466).bind fun t469 => (if (Int.tmod a2 8) > 5 then ((archivistlaw06_tags.f k l0 18).bind fun t472 => ((archivistlaw06_refPairs.f k t472).bind fun t475 => (archivistlaw06_LabelParses.j0 k a1 a2 a3 a4 t462 t475))) else (archivistlaw06_LabelParses.j0 k a1 a2 a3 a4 t462 t469))))) else (none))) = some r := h
 clear h
 replace H := Option.bind_eq_some_iff.mp H
 obtain ⟨t462, A60, H⟩ := H
 replace H : (if t462 = true then ((archivistlaw06_tags.f k l0 18).bind fun t463 => ((archivistlaw06_refPairs.f k t463).bind fun t466 => ((archivistref06_Of.f k t466).bind fun t469 => (if (Int.tmod a2 8) > 5 then ((archivistlaw06_tags.f k l0 18).bind fun t472 => ((archivistlaw06_refPairs.f k t472).bind fun t475 => (archivistlaw06_LabelParses.j0 k a1 a2 a3 a4 t462 t475))) else (archivistlaw06_LabelParses.j0 k a1 a2 a3 a4 t462 t469))))) else (none)) = some r := H
 have A6 := Aside0.mk A60
 clear A60
 by_cases c7 : t462 = true
 ·subst c7
  have H1 : ((archivistlaw06_tags.f k l0 18).bind fun t463 => ((archivistlaw06_refPairs.f k t463).bind fun t466 => ((archivistref06_Of.f k t466).bind fun t469 => (if (Int.tmod a2 8) > 5 then ((archivistlaw06_tags.f k l0 18).bind fun t472 => ((archivistlaw06_refPairs.f k t472).bind fun t475 => (archivistlaw06_LabelParses.j0 k a1 a2 a3 a4 true t475))) else (archivistlaw06_LabelParses.j0 k a1 a2 a3 a4 true t469))))) = some r := by rw [if_pos rfl] at H; exact H
  clear H
  have H := H1
  clear H1
  replace H := Option.bind_eq_some_iff.mp H
  obtain ⟨t463, A80, H⟩ := H
  replace H : ((archivistlaw06_refPairs.f k t463).bind fun t466 => ((archivistref06_Of.f k t466).bind fun t469 => (if (Int.tmod a2 8) > 5 then ((archivistlaw06_tags.f k l0 18).bind fun t472 => ((archivistlaw06_refPairs.f k t472).bind fun t475 => (archivistlaw06_LabelParses.j0 k a1 a2 a3 a4 true t475))) else (archivistlaw06_LabelParses.j0 k a1 a2 a3 a4 true t469)))) = some r := H
  have A8 := Aside0.mk A80
  clear A80
  replace H := Option.bind_eq_some_iff.mp H
  obtain ⟨t466, A90, H⟩ := H
  replace H : ((archivistref06_Of.f k t466).bind fun t469 => (if (Int.tmod a2 8) > 5 then ((archivistlaw06_tags.f k l0 18).bind fun t472 => ((archivistlaw06_refPairs.f k t472).bind fun t475 => (archivistlaw06_LabelParses.j0 k a1 a2 a3 a4 true t475))) else (archivistlaw06_LabelParses.j0 k a1 a2 a3 a4 true t469))) = some r := H
  have A9 := Aside0.mk A90
  clear A90
  replace H := Option.bind_eq_some_iff.mp H
  obtain ⟨t469, A100, H⟩ := H
  replace H : (if (Int.tmod a2 8) > 5 then ((archivistlaw06_tags.f k l0 18).bind fun t472 => ((archivistlaw06_refPairs.f k t472).bind fun t475 => (archivistlaw06_LabelParses.j0 k a1 a2 a3 a4 true t475))) else (archivistlaw06_LabelParses.j0 k a1 a2 a3 a4 true t469)) = some r := H
  have A10 := Aside0.mk A100
  clear A100
  have HC11 := Aside0.mk H
  clear H
  go_enter Try.func4, Try.ntmps4
  go_upto_if 30 with (first | ((with_reducible refine gate_callee (f := 15) rfl ?_); refine goesL_ (some 21) rfl rfl Try.func15 (by kernel_rfl) rfl #[] rfl ml ?_; (with_reducible refine (archivistlaw06_examples.calls _ _ _ A6.out).mono ?_); rintro e w12 ⟨rfl, hb⟩; refine ⟨_, rfl, ?_⟩; have n0_ := Aside0.mk (below_step bl hb); clear HB; have HB := n0_; clear n0_; (try clear hb); (try clear hb2); (try clear hk); (try clear hi)) | ((with_reducible refine gate_callee (f := 16) rfl ?_); refine goesL_ (some 25) rfl rfl Try.func16 (by kernel_rfl) rfl #[.slice A0 l0.length c0, .int .i64 18] rfl ml ?_; (with_reducible refine (archivistlaw06_tags.calls _ _ _ _ _ _ _ ?side1 ?side2 A8.out).mono ?_); (case side1 => repeat (first | exact (Kd.C_below HR0.out HB.out) | (with_reducible refine Kd.C_alloc ?_ _) | (with_reducible refine Kd.C_drewN ?_ _) | (with_reducible refine Kd.C_drew ?_))); (case side2 => exact HC0.out); rintro e w13 ⟨v464, rfl, ho0, hb⟩; refine ⟨_, rfl, ?_⟩; have n0_ := Aside0.mk (Kd.R_lower ho0 (below_size bl)); have n1_ := Aside0.mk (below_step bl hb); clear HB; have HO465 := n0_; have HB := n1_; clear n0_ n1_; (try clear hb); (try clear hb2); (try clear hk); (try clear hi); (try clear ho0); obtain ⟨Ao14, co14, eo14⟩ := Kd.R_slice HO465.out; subst eo14) | ((with_reducible refine gate_callee (f := 17) rfl ?_); refine goesL_ (some 26) rfl rfl Try.func17 (by kernel_rfl) rfl #[.slice Ao14 t463.length co14] rfl ml ?_; (with_reducible refine (archivistlaw06_refPairs.calls _ _ _ _ _ _ ?side1 ?side2 A9.out).mono ?_); (case side1 => exact cz (Kd.R_reads' HO465.out).2.2); (case side2 => exact (Kd.R_reads' HO465.out).2.1); rintro e w15 ⟨v467, rfl, ho0, hb⟩; refine ⟨_, rfl, ?_⟩; have n0_ := Aside0.mk (Kd.R_below (rz HO465.out) hb); have n1_ := Aside0.mk (Kd.R_lower ho0 (below_size bl)); have n2_ := Aside0.mk (below_step bl hb); clear HO465; clear HB; have HO465 := n0_; have HO468 := n1_; have HB := n2_; clear n0_ n1_ n2_; (try clear hb); (try clear hb2); (try clear hk); (try clear hi); (try clear ho0); obtain ⟨Ao16, co16, eo16⟩ := Kd.R_slice HO468.out; subst eo16) | ((with_reducible refine gate_callee (f := 22) rfl ?_); refine goesL_ (some 27) rfl rfl Try.func22 (by kernel_rfl) rfl #[.slice Ao16 t466.length co16] rfl ml ?_; (with_reducible refine (archivistref06_Of.calls _ _ _ _ _ _ ?side1 ?side2 A10.out).mono ?_); (case side1 => exact cz (Kd.R_reads' HO468.out).2.2); (case side2 => exact (Kd.R_reads' HO468.out).2.1); rintro e w17 ⟨v470, rfl, ho0, hb⟩; refine ⟨_, rfl, ?_⟩; have n0_ := Aside0.mk (Kd.R_below (rz HO465.out) hb); have n1_ := Aside0.mk (Kd.R_elder' (rz HO468.out) (Kd.R_base ho0) hb); have n2_ := Aside0.mk (Kd.R_lower (Kd.R_new' ho0 (Kd.R_lt (rz HO468.out))) (below_size bl)); have n3_ := Aside0.mk (below_step bl hb); clear HO465; clear HO468; clear HB; have HO465 := n0_; have HO468 := n1_; have HO471 := n2_; have HB := n3_; clear n0_ n1_ n2_ n3_; (try clear hb); (try clear hb2); (try clear hk); (try clear hi); (try clear ho0)))
  (try simp only [Act.put, List.setIfInBounds_toArray, List.set_cons_zero, List.set_cons_succ])
  go_cut [12] (fun v12 wc => ∃ (kq : Nat) (x12_10 : List (S38)), Aside0 (archivistlaw06_LabelParses.j0 kq a1 a2 a3 a4 true x12_10 = some r) ∧ Aside0 (kq ≤ k) ∧ Aside0 (Kd.R k38 38 wc w.heap.size (fun _ => True) v12 x12_10) ∧ Aside0 (Below w.heap.size w wc))
  case first =>
   have H := HC11.out
   clear HC11
   by_cases c18 : (Int.tmod a2 8) > 5
   ·rw [if_pos c18] at H
    have c18b0 := decide_eq_true c18
    clear c18
    (first | rw [c18b0] | (simp only [i64_w, i32_w]; rw [c18b0]) | skip)
    replace H := Option.bind_eq_some_iff.mp H
    obtain ⟨t472, A190, H⟩ := H
    replace H : ((archivistlaw06_refPairs.f k t472).bind fun t475 => (archivistlaw06_LabelParses.j0 k a1 a2 a3 a4 true t475)) = some r := H
    have A19 := Aside0.mk A190
    clear A190
    obtain rfl : t463 = t472 := Option.some.inj (A8.out.symm.trans A19.out)
    replace H := Option.bind_eq_some_iff.mp H
    obtain ⟨t475, A200, H⟩ := H
    replace H : (archivistlaw06_LabelParses.j0 k a1 a2 a3 a4 true t475) = some r := H
    have A20 := Aside0.mk A200
    clear A200
    have H' := Aside0.mk H
    clear H
    go_wp2_with (first | ((with_reducible refine gate_callee (f := 16) rfl ?_); refine goesL_ (some 32) rfl rfl Try.func16 (by kernel_rfl) rfl #[.slice A0 l0.length c0, .int .i64 18] rfl ml ?_; (with_reducible refine (archivistlaw06_tags.calls _ _ _ _ _ _ _ ?side1 ?side2 A19.out).mono ?_); (case side1 => repeat (first | exact (Kd.C_below HR0.out HB.out) | (with_reducible refine Kd.C_alloc ?_ _) | (with_reducible refine Kd.C_drewN ?_ _) | (with_reducible refine Kd.C_drew ?_))); (case side2 => exact HC0.out); rintro e w21 ⟨v473, rfl, ho0, hb⟩; refine ⟨_, rfl, ?_⟩; have n0_ := Aside0.mk (Kd.R_elder' (rz HO465.out) (Kd.R_base ho0) hb); have n1_ := Aside0.mk (Kd.R_below (rz HO468.out) hb); have n2_ := Aside0.mk (Kd.R_below (rz HO471.out) hb); have n3_ := Aside0.mk (Kd.R_lower (Kd.R_new' ho0 (Kd.R_lt (rz HO465.out))) (below_size bl)); have n4_ := Aside0.mk (below_step bl hb); clear HO465; clear HO468; clear HO471; clear HB; have HO465 := n0_; have HO468 := n1_; have HO471 := n2_; have HO474 := n3_; have HB := n4_; clear n0_ n1_ n2_ n3_ n4_; (try clear hb); (try clear hb2); (try clear hk); (try clear hi); (try clear ho0); obtain ⟨Ao22, co22, eo22⟩ := Kd.R_slice HO474.out; subst eo22) | ((with_reducible refine gate_callee (f := 17) rfl ?_); refine goesL_ (some 33) rfl rfl Try.func17 (by kernel_rfl) rfl #[.slice Ao22 t463.length co22] rfl ml ?_; (with_reducible refine (archivistlaw06_refPairs.calls _ _ _ _ _ _ ?side1 ?side2 A20.out).mono ?_); (case side1 => exact cz (Kd.R_reads' HO474.out).2.2); (case side2 => exact (Kd.R_reads' HO474.out).2.1); rintro e w23 ⟨v476, rfl, ho0, hb⟩; refine ⟨_, rfl, ?_⟩; have n0_ := Aside0.mk (Kd.R_below (rz HO465.out) hb); have n1_ := Aside0.mk (Kd.R_elder' (rz HO468.out) (Kd.R_base ho0) hb); have n2_ := Aside0.mk (Kd.R_elder' (rz HO471.out) (Kd.R_base ho0) hb); have n3_ := Aside0.mk (Kd.R_below (rz HO474.out) hb); have n4_ := Aside0.mk (Kd.R_lower (Kd.R_new' (Kd.R_new' ho0 (Kd.R_lt (rz HO468.out))) (Kd.R_lt (rz HO471.out))) (below_size bl)); have n5_ := Aside0.mk (below_step bl hb); clear HO465; clear HO468; clear HO471; clear HO474; clear HB; have HO465 := n0_; have HO468 := n1_; have HO471 := n2_; have HO474 := n3_; have HO477 := n4_; have HB := n5_; clear n0_ n1_ n2_ n3_ n4_ n5_; (try clear hb); (try clear hb2); (try clear hk); (try clear hi); (try clear ho0)))
    go_meet
    case rel => exact ⟨_, (t475), H', ⟨by first | omega | exact Nat.le_refl _⟩, ⟨by (with_reducible repeat (first | apply Kd.R_alloc | apply Kd.R_drewN | apply Kd.R_drew)); exact Kd.R_mono HO477.out (fun _ hk => trivial)⟩, ⟨bl⟩⟩
   ·rw [if_neg c18] at H
    have c18b0 : decide (5 < (Int.tmod a2 8)) = false := decide_eq_false c18
    clear c18
    (first | rw [c18b0] | (simp only [i64_w, i32_w]; rw [c18b0]) | skip)
    have H' := Aside0.mk H
    clear H
    go_wp2
    go_meet
    case rel => exact ⟨_, (t469), H', ⟨by first | omega | exact Nat.le_refl _⟩, ⟨by (with_reducible repeat (first | apply Kd.R_alloc | apply Kd.R_drewN | apply Kd.R_drew)); exact Kd.R_mono HO471.out (fun _ hk => trivial)⟩, ⟨bl⟩⟩
  case rest =>
   clear HC11
   try clear c1
   try clear c2
   try clear p2
   try clear c4
   try clear c7
   try clear c15
   try clear c16
   try clear c17
   try clear c18
   try clear c18b0
   try clear c22
   obtain ⟨kq, x12_10, HA, HJ10, HO_12, HB⟩ := hcut
   cases kq with
   | zero => exact absurd HA.out (by simp [archivistlaw06_LabelParses.j0])
   | succ kj10 =>
    have H := HA.out
    clear HA
    simp only [archivistlaw06_LabelParses.j0] at H
    replace H := Option.bind_eq_some_iff.mp H
    obtain ⟨t478, A240, H⟩ := H
    replace H : (if (Int.tmod a2 4) = 0 then (if t478.size + a1.size ≤ 9223372036854775807 then ((label_Parse.f kj10 (t478 ++ a1)).bind fun bt479 => ((archivistref06_Parse.f kj10 (t478 ++ a1)).bind fun bt484 => ((archivistlaw06_samePairs.f kj10 bt479.1 bt484.1).bind fun t489 => (if true = true then (if t489 = true then (if bt479.2.1 = bt484.2.1 then (some (bt479.2.2 == bt484.2.2)) else (none)) else (none)) else (none))))) else (none)) else (if (Int.tmod a2 4) = 1 then (archivistlaw06_LabelParses.j1 kj10 a1 a3 a4 true t478 ((Int.tmod a2 4) == 1)) else (archivistlaw06_LabelParses.j1 kj10 a1 a3 a4 true t478 ((Int.tmod a2 4) == 2)))) = some r := H
    have A24 := Aside0.mk A240
    clear A240
    by_cases c25 : (Int.tmod a2 4) = 0
    ·rw [if_pos c25] at H
     have c25b0 : ((Int.tmod a2 4) == 0) = true := beq_iff_eq.mpr c25
     have c25b1 : ((Int.tmod a2 4) != 0) = false := bne_eq_false_iff_eq.mpr c25
     clear c25
     by_cases c26 : t478.size + a1.size ≤ 9223372036854775807
     ·rw [if_pos c26] at H
      have c26b0 := eq_true c26
      have c26b1 : decide (t478.size + a1.size ≤ 9223372036854775807) = true := decide_eq_true c26
      try have c26b2 : (9223372036854775807 < t478.size + a1.size) = False := eq_false (Nat.not_lt.2 c26)
      replace H := Option.bind_eq_some_iff.mp H
      obtain ⟨⟨t479, t480, t481⟩, A270, H⟩ := H
      replace H : ((archivistref06_Parse.f kj10 (t478 ++ a1)).bind fun bt484 => ((archivistlaw06_samePairs.f kj10 t479 bt484.1).bind fun t489 => (if true = true then (if t489 = true then (if t480 = bt484.2.1 then (some (t481 == bt484.2.2)) else (none)) else (none)) else (none)))) = some r := H
      have A27 := Aside0.mk A270
      clear A270
      replace H := Option.bind_eq_some_iff.mp H
      obtain ⟨⟨t484, t485, t486⟩, A280, H⟩ := H
      replace H : ((archivistlaw06_samePairs.f kj10 t479 t484).bind fun t489 => (if true = true then (if t489 = true then (if t480 = t485 then (some (t481 == t486)) else (none)) else (none)) else (none))) = some r := H
      have A28 := Aside0.mk A280
      clear A280
      replace H := Option.bind_eq_some_iff.mp H
      obtain ⟨t489, A290, H⟩ := H
      replace H : (if true = true then (if t489 = true then (if t480 = t485 then (some (t481 == t486)) else (none)) else (none)) else (none)) = some r := H
      have A29 := Aside0.mk A290
      clear A290
      by_cases c30 : true = true
      ·clear c30
       have H1 : (if t489 = true then (if t480 = t485 then (some (t481 == t486)) else (none)) else (none)) = some r := by first | (rw [if_pos rfl] at H; exact H) | (rw [if_pos trivial] at H; exact H)
       clear H
       have H := H1
       clear H1
       by_cases c31 : t489 = true
       ·subst c31
        have H1 : (if t480 = t485 then (some (t481 == t486)) else (none)) = some r := by first | (rw [if_pos rfl] at H; exact H) | (rw [if_pos trivial] at H; exact H)
        clear H
        have H := H1
        clear H1
        by_cases c32 : t480 = t485
        ·rw [if_pos c32] at H
         have c32b0 : (t480 == t485) = true := beq_iff_eq.mpr c32
         have c32b1 : (t480 != t485) = false := bne_eq_false_iff_eq.mpr c32
         clear c32
         obtain rfl := Option.some.inj H
         obtain ⟨Ao33, co33, eo33⟩ := Kd.R_slice HO_12.out
         subst eo33
         go_wp2_with (first | ((with_reducible refine gate_callee (f := 30) rfl ?_); refine goesL_ (some 35) rfl rfl Try.func30 (by kernel_rfl) rfl #[.slice Ao33 x12_10.length co33] rfl ml ?_; (with_reducible refine (archivistref06_Text.calls _ _ _ _ _ _ ?side1 ?side2 A24.out).mono ?_); (case side1 => exact cz (Kd.R_reads' HO_12.out).2.2); (case side2 => exact (Kd.R_reads' HO_12.out).2.1); rintro e w34 ⟨rfl, hb⟩; refine ⟨_, rfl, ?_⟩; have n0_ := Aside0.mk (Kd.R_below (rz HO_12.out) hb); have n1_ := Aside0.mk (below_step bl hb); clear HO_12; clear HB; have HO_12 := n0_; have HB := n1_; clear n0_ n1_; (try clear hb); (try clear hb2); (try clear hk); (try clear hi)) | ((with_reducible refine gate_callee (f := 35) rfl ?_); refine goesL_ (some 52) rfl rfl Try.func35 (by kernel_rfl) rfl #[.string (t478 ++ a1)] rfl ml ?_; (with_reducible refine (label_Parse.calls _ _ _ _ _ _ A27.out).mono ?_); rintro e w35 ⟨v482, rfl, ho0, hb⟩; refine ⟨_, rfl, ?_⟩; have n0_ := Aside0.mk (Kd.R_below (rz HO_12.out) hb); have n1_ := Aside0.mk (Kd.R_lower ho0 (below_size bl)); have n2_ := Aside0.mk (below_step bl hb); clear HO_12; clear HB; have HO_12 := n0_; have HO483 := n1_; have HB := n2_; clear n0_ n1_ n2_; (try clear hb); (try clear hb2); (try clear hk); (try clear hi); (try clear ho0)) | ((with_reducible refine gate_callee (f := 36) rfl ?_); refine goesL_ (some 58) rfl rfl Try.func36 (by kernel_rfl) rfl #[.string (t478 ++ a1)] rfl ml ?_; (with_reducible refine (archivistref06_Parse.calls _ _ _ _ _ _ A28.out).mono ?_); rintro e w36 ⟨v487, rfl, ho0, hb⟩; refine ⟨_, rfl, ?_⟩; have n0_ := Aside0.mk (Kd.R_elder' (rz HO_12.out) (Kd.R_base ho0) hb); have n1_ := Aside0.mk (Kd.R_below (rz HO483.out) hb); have n2_ := Aside0.mk (Kd.R_lower (Kd.R_new' ho0 (Kd.R_lt (rz HO_12.out))) (below_size bl)); have n3_ := Aside0.mk (below_step bl hb); clear HO_12; clear HO483; clear HB; have HO_12 := n0_; have HO483 := n1_; have HO488 := n2_; have HB := n3_; clear n0_ n1_ n2_ n3_; (try clear hb); (try clear hb2); (try clear hk); (try clear hi); (try clear ho0); obtain ⟨Ao37, co37, eo37⟩ := Kd.R_slice HO483.out; subst eo37; obtain ⟨Ao38, co38, eo38⟩ := Kd.R_slice HO488.out; subst eo38) | ((with_reducible refine gate_callee (f := 20) rfl ?_); refine goesL_ (some 64) rfl rfl Try.func20 (by kernel_rfl) rfl #[.slice Ao37 t479.length co37, .slice Ao38 t484.length co38] rfl ml ?_; (with_reducible refine (archivistlaw06_samePairs.calls _ _ _ _ _ _ _ _ _ ?side1 ?side2 ?side3 ?side4 A29.out).mono ?_); (case side1 => exact cz (Kd.R_reads' HO483.out).2.2); (case side2 => exact (Kd.R_reads' HO483.out).2.1); (case side3 => exact cz (Kd.R_reads' HO488.out).2.2); (case side4 => exact (Kd.R_reads' HO488.out).2.1); rintro e w' ⟨rfl, ⟨nd, rfl⟩⟩; refine ⟨_, rfl, ?_⟩))
         go_ret
         exact ⟨by first | rfl | (simp [errW_none, errW_some] <;> rfl) | (simp [*, errW_none, errW_some] <;> rfl), bl⟩
        ·rw [if_neg c32] at H
         exact absurd H (by simp)
       ·replace c31 := Bool.eq_false_iff.mpr c31
        subst c31
        have H1 : (none) = some r := by rw [if_neg (show ¬ (false = true) by decide)] at H; exact H
        clear H
        have H := H1
        clear H1
        exact absurd H (by simp)
      ·exact absurd rfl c30
     ·rw [if_neg c26] at H
      exact absurd H (by simp)
    ·rw [if_neg c25] at H
     have c25b0 : ((Int.tmod a2 4) == 0) = false := beq_eq_false_iff_ne.mpr c25
     have c25b1 : ((Int.tmod a2 4) != 0) = true := bne_iff_ne.mpr c25
     have HC39 := Aside0.mk H
     clear H
     obtain ⟨Ao40, co40, eo40⟩ := Kd.R_slice HO_12.out
     subst eo40
     go_upto_if 43 with (first | ((with_reducible refine gate_callee (f := 30) rfl ?_); refine goesL_ (some 35) rfl rfl Try.func30 (by kernel_rfl) rfl #[.slice Ao40 x12_10.length co40] rfl ml ?_; (with_reducible refine (archivistref06_Text.calls _ _ _ _ _ _ ?side1 ?side2 A24.out).mono ?_); (case side1 => exact cz (Kd.R_reads' HO_12.out).2.2); (case side2 => exact (Kd.R_reads' HO_12.out).2.1); rintro e w41 ⟨rfl, hb⟩; refine ⟨_, rfl, ?_⟩; have n0_ := Aside0.mk (Kd.R_below (rz HO_12.out) hb); have n1_ := Aside0.mk (below_step bl hb); clear HO_12; clear HB; have HO_12 := n0_; have HB := n1_; clear n0_ n1_; (try clear hb); (try clear hb2); (try clear hk); (try clear hi)))
     (try simp only [Act.put, List.setIfInBounds_toArray, List.set_cons_zero, List.set_cons_succ])
     go_cut [43] (fun v43 wc => ∃ (kq : Nat) (x43_38 : Bool), v43 = .bool x43_38 ∧ Aside0 (archivistlaw06_LabelParses.j1 kq a1 a3 a4 true t478 x43_38 = some r) ∧ Aside0 (kq ≤ kj10) ∧ Aside0 (Below w.heap.size w wc))
     case first =>
      have H := HC39.out
      clear HC39
      by_cases c42 : (Int.tmod a2 4) = 1
      ·rw [if_pos c42] at H
       have c42b0 : ((Int.tmod a2 4) == 1) = true := beq_iff_eq.mpr c42
       have c42b1 : ((Int.tmod a2 4) != 1) = false := bne_eq_false_iff_eq.mpr c42
       clear c42
       (first | rw [c42b0] | (simp only [i64_w, i32_w]; rw [c42b0]) | skip)
       have H' := Aside0.mk H
       clear H
       go_wp2
       go_meet
       case rel => exact ⟨_, (((Int.tmod a2 4) == 1)), rs, H', ⟨by have := HJ10.out; first | omega | exact Nat.le_refl _⟩, ⟨bl⟩⟩
      ·rw [if_neg c42] at H
       have c42b0 : ((Int.tmod a2 4) == 1) = false := beq_eq_false_iff_ne.mpr c42
       have c42b1 : ((Int.tmod a2 4) != 1) = true := bne_iff_ne.mpr c42
       (first | rw [c42b0] | (simp only [i64_w, i32_w]; rw [c42b0]) | skip)
       have H' := Aside0.mk H
       clear H
       go_wp2
       go_meet
       case rel => exact ⟨_, (((Int.tmod a2 4) == 2)), rs, H', ⟨by have := HJ10.out; first | omega | exact Nat.le_refl _⟩, ⟨bl⟩⟩
     case rest =>
      clear HC39
      try clear c1
      try clear c2
      try clear p2
      try clear c3
      try clear c4
      try clear c7
      try clear c15
      try clear c16
      try clear c17
      try clear c18
      try clear c18b0
      try clear c20
      try clear c22
      try clear c25
      try clear c25b0
      try clear c25b1
      try clear c26
      try clear c26b0
      try clear c26b1
      try clear c26b2
      try clear c30
      try clear c31
      try clear c32
      try clear c32b0
      try clear c32b1
      try clear c35
      try clear c36
      try clear c42
      try clear c42b0
      try clear c42b1
      try clear p2
      obtain ⟨kq, x43_38, rfl, HA, HJ38, HB⟩ := hcut
      cases kq with
      | zero => exact absurd HA.out (by simp [archivistlaw06_LabelParses.j1])
      | succ kj38 =>
       have H := HA.out
       clear HA
       simp only [archivistlaw06_LabelParses.j1] at H
       by_cases c43 : x43_38 = true
       ·subst c43
        have H1 : ((archivistlaw06_bend.f t478 a3 a4).bind fun t490 => ((label_Parse.f kj38 t490).bind fun bt491 => ((archivistref06_Parse.f kj38 t490).bind fun bt496 => ((archivistlaw06_samePairs.f kj38 bt491.1 bt496.1).bind fun t501 => (if true = true then (if t501 = true then (if bt491.2.1 = bt496.2.1 then (some (bt491.2.2 == bt496.2.2)) else (none)) else (none)) else (none)))))) = some r := by rw [if_pos rfl] at H; exact H
        clear H
        have H := H1
        clear H1
        replace H := Option.bind_eq_some_iff.mp H
        obtain ⟨t490, A440, H⟩ := H
        replace H : ((label_Parse.f kj38 t490).bind fun bt491 => ((archivistref06_Parse.f kj38 t490).bind fun bt496 => ((archivistlaw06_samePairs.f kj38 bt491.1 bt496.1).bind fun t501 => (if true = true then (if t501 = true then (if bt491.2.1 = bt496.2.1 then (some (bt491.2.2 == bt496.2.2)) else (none)) else (none)) else (none))))) = some r := H
        have A44 := Aside0.mk A440
        clear A440
        replace H := Option.bind_eq_some_iff.mp H
        obtain ⟨⟨t491, t492, t493⟩, A450, H⟩ := H
        replace H : ((archivistref06_Parse.f kj38 t490).bind fun bt496 => ((archivistlaw06_samePairs.f kj38 t491 bt496.1).bind fun t501 => (if true = true then (if t501 = true then (if t492 = bt496.2.1 then (some (t493 == bt496.2.2)) else (none)) else (none)) else (none)))) = some r := H
        have A45 := Aside0.mk A450
        clear A450
        replace H := Option.bind_eq_some_iff.mp H
        obtain ⟨⟨t496, t497, t498⟩, A460, H⟩ := H
        replace H : ((archivistlaw06_samePairs.f kj38 t491 t496).bind fun t501 => (if true = true then (if t501 = true then (if t492 = t497 then (some (t493 == t498)) else (none)) else (none)) else (none))) = some r := H
        have A46 := Aside0.mk A460
        clear A460
        replace H := Option.bind_eq_some_iff.mp H
        obtain ⟨t501, A470, H⟩ := H
        replace H : (if true = true then (if t501 = true then (if t492 = t497 then (some (t493 == t498)) else (none)) else (none)) else (none)) = some r := H
        have A47 := Aside0.mk A470
        clear A470
        by_cases c48 : true = true
        ·clear c48
         have H1 : (if t501 = true then (if t492 = t497 then (some (t493 == t498)) else (none)) else (none)) = some r := by first | (rw [if_pos rfl] at H; exact H) | (rw [if_pos trivial] at H; exact H)
         clear H
         have H := H1
         clear H1
         by_cases c49 : t501 = true
         ·subst c49
          have H1 : (if t492 = t497 then (some (t493 == t498)) else (none)) = some r := by first | (rw [if_pos rfl] at H; exact H) | (rw [if_pos trivial] at H; exact H)
          clear H
          have H := H1
          clear H1
          by_cases c50 : t492 = t497
          ·rw [if_pos c50] at H
           have c50b0 : (t492 == t497) = true := beq_iff_eq.mpr c50
           have c50b1 : (t492 != t497) = false := bne_eq_false_iff_eq.mpr c50
           clear c50
           obtain rfl := Option.some.inj H
           go_wp2_with (first | ((with_reducible refine gate_callee (f := 34) rfl ?_); refine goesL_ (some 49) rfl rfl Try.func34 (by kernel_rfl) rfl #[.string t478, .int .i64 a3, .int .u8 a4] rfl ml ?_; (with_reducible refine (archivistlaw06_bend.calls _ _ _ _ _ A44.out).mono ?_); rintro e w51 ⟨rfl, hb⟩; refine ⟨_, rfl, ?_⟩; have n0_ := Aside0.mk (below_step bl hb); clear HB; have HB := n0_; clear n0_; (try clear hb); (try clear hb2); (try clear hk); (try clear hi)) | ((with_reducible refine gate_callee (f := 35) rfl ?_); refine goesL_ (some 52) rfl rfl Try.func35 (by kernel_rfl) rfl #[.string t490] rfl ml ?_; (with_reducible refine (label_Parse.calls _ _ _ _ _ _ A45.out).mono ?_); rintro e w52 ⟨v494, rfl, ho0, hb⟩; refine ⟨_, rfl, ?_⟩; have n0_ := Aside0.mk (Kd.R_lower ho0 (below_size bl)); have n1_ := Aside0.mk (below_step bl hb); clear HB; have HO495 := n0_; have HB := n1_; clear n0_ n1_; (try clear hb); (try clear hb2); (try clear hk); (try clear hi); (try clear ho0)) | ((with_reducible refine gate_callee (f := 36) rfl ?_); refine goesL_ (some 58) rfl rfl Try.func36 (by kernel_rfl) rfl #[.string t490] rfl ml ?_; (with_reducible refine (archivistref06_Parse.calls _ _ _ _ _ _ A46.out).mono ?_); rintro e w53 ⟨v499, rfl, ho0, hb⟩; refine ⟨_, rfl, ?_⟩; have n0_ := Aside0.mk (Kd.R_below (rz HO495.out) hb); have n1_ := Aside0.mk (Kd.R_lower ho0 (below_size bl)); have n2_ := Aside0.mk (below_step bl hb); clear HO495; clear HB; have HO495 := n0_; have HO500 := n1_; have HB := n2_; clear n0_ n1_ n2_; (try clear hb); (try clear hb2); (try clear hk); (try clear hi); (try clear ho0); obtain ⟨Ao54, co54, eo54⟩ := Kd.R_slice HO495.out; subst eo54; obtain ⟨Ao55, co55, eo55⟩ := Kd.R_slice HO500.out; subst eo55) | ((with_reducible refine gate_callee (f := 20) rfl ?_); refine goesL_ (some 64) rfl rfl Try.func20 (by kernel_rfl) rfl #[.slice Ao54 t491.length co54, .slice Ao55 t496.length co55] rfl ml ?_; (with_reducible refine (archivistlaw06_samePairs.calls _ _ _ _ _ _ _ _ _ ?side1 ?side2 ?side3 ?side4 A47.out).mono ?_); (case side1 => exact cz (Kd.R_reads' HO495.out).2.2); (case side2 => exact (Kd.R_reads' HO495.out).2.1); (case side3 => exact cz (Kd.R_reads' HO500.out).2.2); (case side4 => exact (Kd.R_reads' HO500.out).2.1); rintro e w' ⟨rfl, ⟨nd, rfl⟩⟩; refine ⟨_, rfl, ?_⟩))
           go_ret
           exact ⟨by first | rfl | (simp [errW_none, errW_some] <;> rfl) | (simp [*, errW_none, errW_some] <;> rfl), bl⟩
          ·rw [if_neg c50] at H
           exact absurd H (by simp)
         ·replace c49 := Bool.eq_false_iff.mpr c49
          subst c49
          have H1 : (none) = some r := by rw [if_neg (show ¬ (false = true) by decide)] at H; exact H
          clear H
          have H := H1
          clear H1
          exact absurd H (by simp)
        ·exact absurd rfl c48
       ·replace c43 := Bool.eq_false_iff.mpr c43
        subst c43
        have H1 : ((label_Parse.f kj38 a1).bind fun bt502 => ((archivistref06_Parse.f kj38 a1).bind fun bt507 => ((archivistlaw06_samePairs.f kj38 bt502.1 bt507.1).bind fun t512 => (if true = true then (if t512 = true then (if bt502.2.1 = bt507.2.1 then (some (bt502.2.2 == bt507.2.2)) else (none)) else (none)) else (none))))) = some r := by rw [if_neg (show ¬ (false = true) by decide)] at H; exact H
        clear H
        have H := H1
        clear H1
        replace H := Option.bind_eq_some_iff.mp H
        obtain ⟨⟨t502, t503, t504⟩, A560, H⟩ := H
        replace H : ((archivistref06_Parse.f kj38 a1).bind fun bt507 => ((archivistlaw06_samePairs.f kj38 t502 bt507.1).bind fun t512 => (if true = true then (if t512 = true then (if t503 = bt507.2.1 then (some (t504 == bt507.2.2)) else (none)) else (none)) else (none)))) = some r := H
        have A56 := Aside0.mk A560
        clear A560
        replace H := Option.bind_eq_some_iff.mp H
        obtain ⟨⟨t507, t508, t509⟩, A570, H⟩ := H
        replace H : ((archivistlaw06_samePairs.f kj38 t502 t507).bind fun t512 => (if true = true then (if t512 = true then (if t503 = t508 then (some (t504 == t509)) else (none)) else (none)) else (none))) = some r := H
        have A57 := Aside0.mk A570
        clear A570
        replace H := Option.bind_eq_some_iff.mp H
        obtain ⟨t512, A580, H⟩ := H
        replace H : (if true = true then (if t512 = true then (if t503 = t508 then (some (t504 == t509)) else (none)) else (none)) else (none)) = some r := H
        have A58 := Aside0.mk A580
        clear A580
        by_cases c59 : true = true
        ·clear c59
         have H1 : (if t512 = true then (if t503 = t508 then (some (t504 == t509)) else (none)) else (none)) = some r := by first | (rw [if_pos rfl] at H; exact H) | (rw [if_pos trivial] at H; exact H)
         clear H
         have H := H1
         clear H1
         by_cases c60 : t512 = true
         ·subst c60
          have H1 : (if t503 = t508 then (some (t504 == t509)) else (none)) = some r := by first | (rw [if_pos rfl] at H; exact H) | (rw [if_pos trivial] at H; exact H)
          clear H
          have H := H1
          clear H1
          by_cases c61 : t503 = t508
          ·rw [if_pos c61] at H
           have c61b0 : (t503 == t508) = true := beq_iff_eq.mpr c61
           have c61b1 : (t503 != t508) = false := bne_eq_false_iff_eq.mpr c61
           clear c61
           obtain rfl := Option.some.inj H
           go_wp2_with (first | ((with_reducible refine gate_callee (f := 35) rfl ?_); refine goesL_ (some 52) rfl rfl Try.func35 (by kernel_rfl) rfl #[.string a1] rfl ml ?_; (with_reducible refine (label_Parse.calls _ _ _ _ _ _ A56.out).mono ?_); rintro e w62 ⟨v505, rfl, ho0, hb⟩; refine ⟨_, rfl, ?_⟩; have n0_ := Aside0.mk (Kd.R_lower ho0 (below_size bl)); have n1_ := Aside0.mk (below_step bl hb); clear HB; have HO506 := n0_; have HB := n1_; clear n0_ n1_; (try clear hb); (try clear hb2); (try clear hk); (try clear hi); (try clear ho0)) | ((with_reducible refine gate_callee (f := 36) rfl ?_); refine goesL_ (some 58) rfl rfl Try.func36 (by kernel_rfl) rfl #[.string a1] rfl ml ?_; (with_reducible refine (archivistref06_Parse.calls _ _ _ _ _ _ A57.out).mono ?_); rintro e w63 ⟨v510, rfl, ho0, hb⟩; refine ⟨_, rfl, ?_⟩; have n0_ := Aside0.mk (Kd.R_below (rz HO506.out) hb); have n1_ := Aside0.mk (Kd.R_lower ho0 (below_size bl)); have n2_ := Aside0.mk (below_step bl hb); clear HO506; clear HB; have HO506 := n0_; have HO511 := n1_; have HB := n2_; clear n0_ n1_ n2_; (try clear hb); (try clear hb2); (try clear hk); (try clear hi); (try clear ho0); obtain ⟨Ao64, co64, eo64⟩ := Kd.R_slice HO506.out; subst eo64; obtain ⟨Ao65, co65, eo65⟩ := Kd.R_slice HO511.out; subst eo65) | ((with_reducible refine gate_callee (f := 20) rfl ?_); refine goesL_ (some 64) rfl rfl Try.func20 (by kernel_rfl) rfl #[.slice Ao64 t502.length co64, .slice Ao65 t507.length co65] rfl ml ?_; (with_reducible refine (archivistlaw06_samePairs.calls _ _ _ _ _ _ _ _ _ ?side1 ?side2 ?side3 ?side4 A58.out).mono ?_); (case side1 => exact cz (Kd.R_reads' HO506.out).2.2); (case side2 => exact (Kd.R_reads' HO506.out).2.1); (case side3 => exact cz (Kd.R_reads' HO511.out).2.2); (case side4 => exact (Kd.R_reads' HO511.out).2.1); rintro e w' ⟨rfl, ⟨nd, rfl⟩⟩; refine ⟨_, rfl, ?_⟩))
           go_ret
           exact ⟨by first | rfl | (simp [errW_none, errW_some] <;> rfl) | (simp [*, errW_none, errW_some] <;> rfl), bl⟩
          ·rw [if_neg c61] at H
           exact absurd H (by simp)
         ·replace c60 := Bool.eq_false_iff.mpr c60
          subst c60
          have H1 : (none) = some r := by rw [if_neg (show ¬ (false = true) by decide)] at H; exact H
          clear H
          have H := H1
          clear H1
          exact absurd H (by simp)
        ·exact absurd rfl c59
 ·replace c7 := Bool.eq_false_iff.mpr c7
  subst c7
  have H1 : (none) = some r := by rw [if_neg (show ¬ (false = true) by decide)] at H; exact H
  clear H
  have H := H1
  clear H1
  exact absurd H (by simp)

/-! ### archivistlaw06_LabelBack: function 5 -/
end Go.Proofs.Ytbkhgldinmabiaa.X
