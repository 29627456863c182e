-- Laid by xprint.py, a program of this session's, out of the translation.
import Derived.Test.YtbkhgldinmabiaaX0
import Derived.Test.YtbkhgldinmabiaaX3
import Derived.Test.YtbkhgldinmabiaaX6
import Derived.Test.YtbkhgldinmabiaaX10
import Derived.Test.YtbkhgldinmabiaaX14
import Derived.Test.YtbkhgldinmabiaaX15
namespace Go.Proofs.Ytbkhgldinmabiaa.X
open Go.RowKit Go.Proofs.YtbkhgldinmabiaaW.PrintWords Go.Proofs.YtbkhgldinmabiaaW.PrintLast Go.Proofs.YtbkhgldinmabiaaW.PrintMore
attribute [local go_sem] max2_int min2_int max_two min_two max_three min_three max_four min_four x_isSome   -- for this text's walks alone
set_option linter.unusedVariables false
set_option linter.unusedSimpArgs false

/-! ### archivistlaw06_LabelWith: function 9 -/
mutual
def archivistlaw06_LabelWith.l0 : Nat → Bool → List (S29) → List (S29) → List (S29) → Int → Option (Bool)
  | 0, _, _, _, _, _ => none
  | k + 1, x5, x6, x7, x8, x9 => if x9 < (x8.length : Int) then (if 0 ≤ x9 then ((label_Set_Get.f k x7 ((rd_T29 x8 x9).f0)).bind fun bt696 => ((label_Set_Get.f k x6 ((rd_T29 x8 x9).f0)).bind fun bt699 => (if bt696.2 = true then (if ((rd_T29 x8 x9).f1).toList = bt696.1.toList then (archivistlaw06_LabelWith.l0 k x5 x6 x7 x8 (wrap64 (x9 + 1))) else (none)) else (if bt699.2 = true then (if ((rd_T29 x8 x9).f1).toList = bt699.1.toList then (archivistlaw06_LabelWith.l0 k x5 x6 x7 x8 (wrap64 (x9 + 1))) else (none)) else (none))))) else (none)) else (archivistlaw06_LabelWith.l1 k x5 x6 x7 x8 (x7.length : Int) 0)
def archivistlaw06_LabelWith.l1 : Nat → Bool → List (S29) → List (S29) → List (S29) → Int → Int → Option (Bool)
  | 0, _, _, _, _, _, _ => none
  | k + 1, x5, x6, x7, x8, x14, x15 => if x15 < (x6.length : Int) then (if 0 ≤ x15 then ((label_Set_Get.f k x7 ((rd_T29 x6 x15).f0)).bind fun bt704 => (if bt704.2 = true then (archivistlaw06_LabelWith.l1 k x5 x6 x7 x8 x14 (wrap64 (x15 + 1))) else (archivistlaw06_LabelWith.l1 k x5 x6 x7 x8 (wrap64 (x14 + 1)) (wrap64 (x15 + 1))))) else (none)) else (if x5 = true then (if (x8.length : Int) = x14 then ((label_Set_With.f k x8 x7).bind fun t706 => ((label_Same.f k t706 x8).bind fun t709 => (some t709))) else (none)) else (none))
end
def archivistlaw06_LabelWith.f (k : Nat) (l0 : List (S76)) (l1 : List (S76)) : Option (Bool) := (archivistlaw06_examples.f k).bind fun t679 => (if t679 = true then ((archivistlaw06_tags.f k l0 6).bind fun t680 => ((label_Of.f k t680).bind fun t683 => ((archivistlaw06_tags.f k l1 6).bind fun t686 => ((label_Of.f k t686).bind fun t689 => ((label_Set_With.f k t683 t689).bind fun t692 => (archivistlaw06_LabelWith.l0 k t679 t683 t689 t692 0)))))) else (none))
theorem archivistlaw06_LabelWith.mono_l : ∀ k, (∀ y0 y1 y2 y3 y4, LeO (archivistlaw06_LabelWith.l0 k y0 y1 y2 y3 y4) (archivistlaw06_LabelWith.l0 (k + 1) y0 y1 y2 y3 y4)) ∧ (∀ y0 y1 y2 y3 y4 y5, LeO (archivistlaw06_LabelWith.l1 k y0 y1 y2 y3 y4 y5) (archivistlaw06_LabelWith.l1 (k + 1) y0 y1 y2 y3 y4 y5))
  | 0 => ⟨fun _ _ _ _ _ r h => by simp [archivistlaw06_LabelWith.l0] at h, fun _ _ _ _ _ _ r h => by simp [archivistlaw06_LabelWith.l1] at h⟩
  | k + 1 => by
    obtain ⟨ih0, ih1⟩ := archivistlaw06_LabelWith.mono_l k
    refine ⟨?_, ?_⟩
    · intro y0 y1 y2 y3 y4
      unfold archivistlaw06_LabelWith.l0
      repeat' first
      | (with_reducible exact ih0 _ _ _ _ _)
      | (with_reducible exact ih1 _ _ _ _ _ _)
      | (with_reducible exact archivistlaw06_examples.mono _)
      | (with_reducible exact archivistlaw06_tags.mono _ _ _)
      | (with_reducible exact label_Of.mono _ _)
      | (with_reducible exact label_Same.mono _ _ _)
      | (with_reducible exact label_Set_Get.mono _ _ _)
      | (with_reducible exact label_Set_With.mono _ _ _)
      | (with_reducible exact LeO.refl _)
      | (with_reducible exact LeO.none _)
      | (with_reducible refine LeO.ite ?_ ?_)
      | (with_reducible refine LeO.bind ?_ (fun _ => ?_))
      | exact ih0 _ _ _ _ _
      | exact ih1 _ _ _ _ _ _
      | exact archivistlaw06_examples.mono _
      | exact archivistlaw06_tags.mono _ _ _
      | exact label_Of.mono _ _
      | exact label_Same.mono _ _ _
      | exact label_Set_Get.mono _ _ _
      | exact label_Set_With.mono _ _ _
      | exact LeO.none _
      | refine LeO.ite ?_ ?_
      | refine LeO.bind ?_ (fun _ => ?_)
    · intro y0 y1 y2 y3 y4 y5
      unfold archivistlaw06_LabelWith.l1
      repeat' first
      | (with_reducible exact ih0 _ _ _ _ _)
      | (with_reducible exact ih1 _ _ _ _ _ _)
      | (with_reducible exact archivistlaw06_examples.mono _)
      | (with_reducible exact archivistlaw06_tags.mono _ _ _)
      | (with_reducible exact label_Of.mono _ _)
      | (with_reducible exact label_Same.mono _ _ _)
      | (with_reducible exact label_Set_Get.mono _ _ _)
      | (with_reducible exact label_Set_With.mono _ _ _)
      | (with_reducible exact LeO.refl _)
      | (with_reducible exact LeO.none _)
      | (with_reducible refine LeO.ite ?_ ?_)
      | (with_reducible refine LeO.bind ?_ (fun _ => ?_))
      | exact ih0 _ _ _ _ _
      | exact ih1 _ _ _ _ _ _
      | exact archivistlaw06_examples.mono _
      | exact archivistlaw06_tags.mono _ _ _
      | exact label_Of.mono _ _
      | exact label_Same.mono _ _ _
      | exact label_Set_Get.mono _ _ _
      | exact label_Set_With.mono _ _ _
      | exact LeO.none _
      | refine LeO.ite ?_ ?_
      | refine LeO.bind ?_ (fun _ => ?_)
theorem archivistlaw06_LabelWith.mono : ∀ a0 a1 k, LeO (archivistlaw06_LabelWith.f k a0 a1) (archivistlaw06_LabelWith.f (k + 1) a0 a1) := by
  intro a0 a1 k
  obtain ⟨ih0, ih1⟩ := archivistlaw06_LabelWith.mono_l k
  unfold archivistlaw06_LabelWith.f
  repeat' first
      | (with_reducible exact ih0 _ _ _ _ _)
      | (with_reducible exact ih1 _ _ _ _ _ _)
      | (with_reducible exact archivistlaw06_examples.mono _)
      | (with_reducible exact archivistlaw06_tags.mono _ _ _)
      | (with_reducible exact label_Of.mono _ _)
      | (with_reducible exact label_Same.mono _ _ _)
      | (with_reducible exact label_Set_Get.mono _ _ _)
      | (with_reducible exact label_Set_With.mono _ _ _)
      | (with_reducible exact LeO.refl _)
      | (with_reducible exact LeO.none _)
      | (with_reducible refine LeO.ite ?_ ?_)
      | (with_reducible refine LeO.bind ?_ (fun _ => ?_))
      | exact ih0 _ _ _ _ _
      | exact ih1 _ _ _ _ _ _
      | exact archivistlaw06_examples.mono _
      | exact archivistlaw06_tags.mono _ _ _
      | exact label_Of.mono _ _
      | exact label_Same.mono _ _ _
      | exact label_Set_Get.mono _ _ _
      | exact label_Set_With.mono _ _ _
      | exact LeO.none _
      | refine LeO.ite ?_ ?_
      | refine LeO.bind ?_ (fun _ => ?_)
set_option maxHeartbeats 8000000 in
set_option maxRecDepth 100000 in
theorem archivistlaw06_LabelWith.calls (k : Nat) (A0 : Option Addr) (c0 : Nat) (l0 : List (S76)) (A1 : Option Addr) (c1 : Nat) (l1 : List (S76)) (r : Bool) (w : World) (hr0 : Kd.C k76 w A0 l0.length l0) (hc0 : l0.length ≤ c0) (hr1 : Kd.C k76 w A1 l1.length l1) (hc1 : l1.length ≤ c1) (h : archivistlaw06_LabelWith.f k l0 l1 = some r) :
    Calls Try.prog 9 #[.slice A0 l0.length c0, .slice A1 l1.length c1] w fun e w' => e = .returned (.bool r) ∧ Below w.heap.size w w' := by
  have HR0 := Aside0.mk hr0
  have HC0 := Aside0.mk hc0
  clear hr0 hc0
  have HR1 := Aside0.mk hr1
  have HC1 := Aside0.mk hc1
  clear hr1 hc1
  have HB := Aside0.mk (Below.refl w.heap.size w)
  have H : ((archivistlaw06_examples.f k).bind fun t679 => (if t679 = true then ((archivistlaw06_tags.f k l0 6).bind fun t680 => ((label_Of.f k t680).bind fun t683 => ((archivistlaw06_tags.f k l1 6).bind fun t686 => ((label_Of.f k t686).bind fun t689 => ((label_Set_With.f k t683 t689).bind fun t692 => (archivistlaw06_LabelWith.l0 k t679 t683 t689 t692 0)))))) else (none))) = some r := h
  clear h
  replace H := Option.bind_eq_some_iff.mp H
  obtain ⟨t679, A30, H⟩ := H
  replace H : (if t679 = true then ((archivistlaw06_tags.f k l0 6).bind fun t680 => ((label_Of.f k t680).bind fun t683 => ((archivistlaw06_tags.f k l1 6).bind fun t686 => ((label_Of.f k t686).bind fun t689 => ((label_Set_With.f k t683 t689).bind fun t692 => (archivistlaw06_LabelWith.l0 k t679 t683 t689 t692 0)))))) else (none)) = some r := H
  have A3 := Aside0.mk A30
  clear A30
  by_cases c4 : t679 = true
  · subst c4
    have H1 : ((archivistlaw06_tags.f k l0 6).bind fun t680 => ((label_Of.f k t680).bind fun t683 => ((archivistlaw06_tags.f k l1 6).bind fun t686 => ((label_Of.f k t686).bind fun t689 => ((label_Set_With.f k t683 t689).bind fun t692 => (archivistlaw06_LabelWith.l0 k true t683 t689 t692 0)))))) = some r := by rw [if_pos rfl] at H; exact H
    clear H
    have H := H1
    clear H1
    replace H := Option.bind_eq_some_iff.mp H
    obtain ⟨t680, A50, H⟩ := H
    replace H : ((label_Of.f k t680).bind fun t683 => ((archivistlaw06_tags.f k l1 6).bind fun t686 => ((label_Of.f k t686).bind fun t689 => ((label_Set_With.f k t683 t689).bind fun t692 => (archivistlaw06_LabelWith.l0 k true t683 t689 t692 0))))) = some r := H
    have A5 := Aside0.mk A50
    clear A50
    replace H := Option.bind_eq_some_iff.mp H
    obtain ⟨t683, A60, H⟩ := H
    replace H : ((archivistlaw06_tags.f k l1 6).bind fun t686 => ((label_Of.f k t686).bind fun t689 => ((label_Set_With.f k t683 t689).bind fun t692 => (archivistlaw06_LabelWith.l0 k true t683 t689 t692 0)))) = some r := H
    have A6 := Aside0.mk A60
    clear A60
    replace H := Option.bind_eq_some_iff.mp H
    obtain ⟨t686, A70, H⟩ := H
    replace H : ((label_Of.f k t686).bind fun t689 => ((label_Set_With.f k t683 t689).bind fun t692 => (archivistlaw06_LabelWith.l0 k true t683 t689 t692 0))) = some r := H
    have A7 := Aside0.mk A70
    clear A70
    replace H := Option.bind_eq_some_iff.mp H
    obtain ⟨t689, A80, H⟩ := H
    replace H : ((label_Set_With.f k t683 t689).bind fun t692 => (archivistlaw06_LabelWith.l0 k true t683 t689 t692 0)) = some r := H
    have A8 := Aside0.mk A80
    clear A80
    replace H := Option.bind_eq_some_iff.mp H
    obtain ⟨t692, A90, H⟩ := H
    replace H : (archivistlaw06_LabelWith.l0 k true t683 t689 t692 0) = some r := H
    have A9 := Aside0.mk A90
    clear A90
    have H' := Aside0.mk H
    clear H
    go_enter Try.func9, Try.ntmps9
    go_wp2_with (first | ((with_reducible refine gate_callee (f := 15) rfl ?_); refine goesL_ (some 18) rfl rfl Try.func15 (by kernel_rfl) rfl #[] rfl (by (try simp only [List.map_toArray, List.map_cons, List.map_nil]); first | done | rfl | (simp only [List.length_drop, List.length_take]; rfl)) ?_; (with_reducible refine (archivistlaw06_examples.calls k  true _ A3.out).mono ?_); rintro e w10 ⟨rfl, hb⟩; refine ⟨_, rfl, ?_⟩; have n0_ := Aside0.mk (below_step (by repeat (first | (with_reducible first | exact HB.out | apply below_alloc | apply pw_below_drewN | apply below_drew1) | exact HB.out)) hb); clear HB; have HB := n0_; clear n0_; (try clear hb); (try clear hb2); (try clear hk); (try clear hi)) | ((with_reducible refine gate_callee (f := 16) rfl ?_); refine goesL_ (some 22) rfl rfl Try.func16 (by kernel_rfl) rfl #[.slice A0 l0.length c0, .int .i64 6] rfl (by (try simp only [List.map_toArray, List.map_cons, List.map_nil]); first | done | rfl | (simp only [List.length_drop, List.length_take]; rfl)) ?_; (with_reducible refine (archivistlaw06_tags.calls k _ _ l0 6 t680 _ ?side1 ?side2 A5.out).mono ?_); (case side1 => repeat (first | exact (Kd.C_below HR0.out HB.out) | (with_reducible refine Kd.C_alloc ?_ _) | (with_reducible refine Kd.C_drewN ?_ _) | (with_reducible refine Kd.C_drew ?_))); (case side2 => exact HC0.out); rintro e w11 ⟨v681, rfl, ho0, hb⟩; refine ⟨_, rfl, ?_⟩; have n0_ := Aside0.mk (Kd.R_lower ho0 (below_size (by repeat (first | (with_reducible first | exact HB.out | apply below_alloc | apply pw_below_drewN | apply below_drew1) | exact HB.out)))); have n1_ := Aside0.mk (below_step (by repeat (first | (with_reducible first | exact HB.out | apply below_alloc | apply pw_below_drewN | apply below_drew1) | exact HB.out)) hb); clear HB; have HO682 := n0_; have HB := n1_; clear n0_ n1_; (try clear hb); (try clear hb2); (try clear hk); (try clear hi); (try clear ho0); obtain ⟨Ao12, co12, eo12⟩ := Kd.R_slice HO682.out; subst eo12) | ((with_reducible refine gate_callee (f := 21) rfl ?_); refine goesL_ (some 23) rfl rfl Try.func21 (by kernel_rfl) rfl #[.slice Ao12 t680.length co12] rfl (by (try simp only [List.map_toArray, List.map_cons, List.map_nil]); first | done | rfl | (simp only [List.length_drop, List.length_take]; rfl)) ?_; (with_reducible refine (label_Of.calls k _ _ t680 t683 _ ?side1 ?side2 A6.out).mono ?_); (case side1 => repeat (first | exact (Kd.R_reads' HO682.out).2.2 | (with_reducible refine Kd.C_alloc ?_ _) | (with_reducible refine Kd.C_drewN ?_ _) | (with_reducible refine Kd.C_drew ?_))); (case side2 => exact (Kd.R_reads' HO682.out).2.1); rintro e w13 ⟨v684, rfl, ho0, hb⟩; refine ⟨_, rfl, ?_⟩; have n0_ := Aside0.mk (Kd.R_elder' (by (with_reducible repeat (first | apply Kd.R_alloc | apply Kd.R_drewN | apply Kd.R_drew)); exact HO682.out) (Kd.R_base ho0) hb); have n1_ := Aside0.mk (Kd.R_lower (Kd.R_new' ho0 (Kd.R_lt (by (with_reducible repeat (first | apply Kd.R_alloc | apply Kd.R_drewN | apply Kd.R_drew)); exact HO682.out))) (below_size (by repeat (first | (with_reducible first | exact HB.out | apply below_alloc | apply pw_below_drewN | apply below_drew1) | exact HB.out)))); have n2_ := Aside0.mk (below_step (by repeat (first | (with_reducible first | exact HB.out | apply below_alloc | apply pw_below_drewN | apply below_drew1) | exact HB.out)) hb); clear HO682; clear HB; have HO682 := n0_; have HO685 := n1_; have HB := n2_; clear n0_ n1_ n2_; (try clear hb); (try clear hb2); (try clear hk); (try clear hi); (try clear ho0)) | ((with_reducible refine gate_callee (f := 16) rfl ?_); refine goesL_ (some 25) rfl rfl Try.func16 (by kernel_rfl) rfl #[.slice A1 l1.length c1, .int .i64 6] rfl (by (try simp only [List.map_toArray, List.map_cons, List.map_nil]); first | done | rfl | (simp only [List.length_drop, List.length_take]; rfl)) ?_; (with_reducible refine (archivistlaw06_tags.calls k _ _ l1 6 t686 _ ?side1 ?side2 A7.out).mono ?_); (case side1 => repeat (first | exact (Kd.C_below HR1.out HB.out) | (with_reducible refine Kd.C_alloc ?_ _) | (with_reducible refine Kd.C_drewN ?_ _) | (with_reducible refine Kd.C_drew ?_))); (case side2 => exact HC1.out); rintro e w14 ⟨v687, rfl, ho0, hb⟩; refine ⟨_, rfl, ?_⟩; have n0_ := Aside0.mk (Kd.R_elder' (by (with_reducible repeat (first | apply Kd.R_alloc | apply Kd.R_drewN | apply Kd.R_drew)); exact HO682.out) (Kd.R_base ho0) hb); have n1_ := Aside0.mk (Kd.R_elder' (by (with_reducible repeat (first | apply Kd.R_alloc | apply Kd.R_drewN | apply Kd.R_drew)); exact HO685.out) (Kd.R_base ho0) hb); have n2_ := Aside0.mk (Kd.R_lower (Kd.R_new' (Kd.R_new' ho0 (Kd.R_lt (by (with_reducible repeat (first | apply Kd.R_alloc | apply Kd.R_drewN | apply Kd.R_drew)); exact HO682.out))) (Kd.R_lt (by (with_reducible repeat (first | apply Kd.R_alloc | apply Kd.R_drewN | apply Kd.R_drew)); exact HO685.out))) (below_size (by repeat (first | (with_reducible first | exact HB.out | apply below_alloc | apply pw_below_drewN | apply below_drew1) | exact HB.out)))); have n3_ := Aside0.mk (below_step (by repeat (first | (with_reducible first | exact HB.out | apply below_alloc | apply pw_below_drewN | apply below_drew1) | exact HB.out)) hb); clear HO682; clear HO685; clear HB; have HO682 := n0_; have HO685 := n1_; have HO688 := n2_; have HB := n3_; clear n0_ n1_ n2_ n3_; (try clear hb); (try clear hb2); (try clear hk); (try clear hi); (try clear ho0); obtain ⟨Ao15, co15, eo15⟩ := Kd.R_slice HO688.out; subst eo15) | ((with_reducible refine gate_callee (f := 21) rfl ?_); refine goesL_ (some 26) rfl rfl Try.func21 (by kernel_rfl) rfl #[.slice Ao15 t686.length co15] rfl (by (try simp only [List.map_toArray, List.map_cons, List.map_nil]); first | done | rfl | (simp only [List.length_drop, List.length_take]; rfl)) ?_; (with_reducible refine (label_Of.calls k _ _ t686 t689 _ ?side1 ?side2 A8.out).mono ?_); (case side1 => repeat (first | exact (Kd.R_reads' HO688.out).2.2 | (with_reducible refine Kd.C_alloc ?_ _) | (with_reducible refine Kd.C_drewN ?_ _) | (with_reducible refine Kd.C_drew ?_))); (case side2 => exact (Kd.R_reads' HO688.out).2.1); rintro e w16 ⟨v690, rfl, ho0, hb⟩; refine ⟨_, rfl, ?_⟩; have n0_ := Aside0.mk (Kd.R_elder' (by (with_reducible repeat (first | apply Kd.R_alloc | apply Kd.R_drewN | apply Kd.R_drew)); exact HO682.out) (Kd.R_base ho0) hb); have n1_ := Aside0.mk (Kd.R_elder' (by (with_reducible repeat (first | apply Kd.R_alloc | apply Kd.R_drewN | apply Kd.R_drew)); exact HO685.out) (Kd.R_base ho0) hb); have n2_ := Aside0.mk (Kd.R_elder' (by (with_reducible repeat (first | apply Kd.R_alloc | apply Kd.R_drewN | apply Kd.R_drew)); exact HO688.out) (Kd.R_base ho0) hb); have n3_ := Aside0.mk (Kd.R_lower (Kd.R_new' (Kd.R_new' (Kd.R_new' ho0 (Kd.R_lt (by (with_reducible repeat (first | apply Kd.R_alloc | apply Kd.R_drewN | apply Kd.R_drew)); exact HO682.out))) (Kd.R_lt (by (with_reducible repeat (first | apply Kd.R_alloc | apply Kd.R_drewN | apply Kd.R_drew)); exact HO685.out))) (Kd.R_lt (by (with_reducible repeat (first | apply Kd.R_alloc | apply Kd.R_drewN | apply Kd.R_drew)); exact HO688.out))) (below_size (by repeat (first | (with_reducible first | exact HB.out | apply below_alloc | apply pw_below_drewN | apply below_drew1) | exact HB.out)))); have n4_ := Aside0.mk (below_step (by repeat (first | (with_reducible first | exact HB.out | apply below_alloc | apply pw_below_drewN | apply below_drew1) | exact HB.out)) hb); clear HO682; clear HO685; clear HO688; clear HB; have HO682 := n0_; have HO685 := n1_; have HO688 := n2_; have HO691 := n3_; have HB := n4_; clear n0_ n1_ n2_ n3_ n4_; (try clear hb); (try clear hb2); (try clear hk); (try clear hi); (try clear ho0); obtain ⟨Ao17, co17, eo17⟩ := Kd.R_slice HO685.out; subst eo17; obtain ⟨Ao18, co18, eo18⟩ := Kd.R_slice HO691.out; subst eo18) | ((with_reducible refine gate_callee (f := 23) rfl ?_); refine goesL_ (some 29) rfl rfl Try.func23 (by kernel_rfl) rfl #[.slice Ao17 t683.length co17, .slice Ao18 t689.length co18] rfl (by (try simp only [List.map_toArray, List.map_cons, List.map_nil]); first | done | rfl | (simp only [List.length_drop, List.length_take]; rfl)) ?_; (with_reducible refine (label_Set_With.calls k (fun k_ => some k_ = (.slice Ao17 t683.length co17 : Value).ownBlock) _ _ t683 (fun k_ => some k_ = (.slice Ao18 t689.length co18 : Value).ownBlock) _ _ t689 t692 _ ?side1 ?side2 A9.out).mono ?_); (case side1 => exact Kd.R_V (Kd.R_tight rfl (HO685.out))); (case side2 => exact Kd.R_V (Kd.R_tight rfl (HO691.out))); rintro e w19 ⟨v693, rfl, ho0, hb⟩; refine ⟨_, rfl, ?_⟩; have n0_ := Aside0.mk (Kd.R_elder' (by (with_reducible repeat (first | apply Kd.R_alloc | apply Kd.R_drewN | apply Kd.R_drew)); exact HO682.out) (Kd.R_base ho0) hb); have n1_ := Aside0.mk (Kd.R_elder' (by (with_reducible repeat (first | apply Kd.R_alloc | apply Kd.R_drewN | apply Kd.R_drew)); exact HO685.out) (Kd.R_base ho0) hb); have n2_ := Aside0.mk (Kd.R_elder' (by (with_reducible repeat (first | apply Kd.R_alloc | apply Kd.R_drewN | apply Kd.R_drew)); exact HO688.out) (Kd.R_base ho0) hb); have n3_ := Aside0.mk (Kd.R_elder' (by (with_reducible repeat (first | apply Kd.R_alloc | apply Kd.R_drewN | apply Kd.R_drew)); exact HO691.out) (Kd.R_base ho0) hb); have n4_ := Aside0.mk (Kd.R_lower (Kd.R_new' (Kd.R_new' (Kd.R_new' (Kd.R_new' (Kd.R_mono (ok' := fun k_ => True) ho0 (fun _ hk_ => trivial)) (Kd.R_lt (by (with_reducible repeat (first | apply Kd.R_alloc | apply Kd.R_drewN | apply Kd.R_drew)); exact HO682.out))) (Kd.R_lt (by (with_reducible repeat (first | apply Kd.R_alloc | apply Kd.R_drewN | apply Kd.R_drew)); exact HO685.out))) (Kd.R_lt (by (with_reducible repeat (first | apply Kd.R_alloc | apply Kd.R_drewN | apply Kd.R_drew)); exact HO688.out))) (Kd.R_lt (by (with_reducible repeat (first | apply Kd.R_alloc | apply Kd.R_drewN | apply Kd.R_drew)); exact HO691.out))) (below_size (by repeat (first | (with_reducible first | exact HB.out | apply below_alloc | apply pw_below_drewN | apply below_drew1) | exact HB.out)))); have n5_ := Aside0.mk (below_step (by repeat (first | (with_reducible first | exact HB.out | apply below_alloc | apply pw_below_drewN | apply below_drew1) | exact HB.out)) hb); clear HO682; clear HO685; clear HO688; clear HO691; clear HB; have HO682 := n0_; have HO685 := n1_; have HO688 := n2_; have HO691 := n3_; have HO694 := n4_; have HB := n5_; clear n0_ n1_ n2_ n3_ n4_ n5_; (try clear hb); (try clear hb2); (try clear hk); (try clear hi); (try clear ho0)))
    go_loopg [9] k (fun kq v9 w' => ∃ (x9_1 : Int), v9 = .int .i64 x9_1 ∧ Aside0 (archivistlaw06_LabelWith.l0 kq true t683 t689 t692 x9_1 = some r) ∧ Aside0 (kq ≤ k) ∧ Aside0 (Kd.R k29 29 w' w.heap.size (fun k_ => some k_ ≠ ((.slice Ao18 t689.length co18) : Value).ownBlock ∧ some k_ ≠ (v693 : Value).ownBlock) (.slice Ao17 t683.length co17) t683) ∧ Aside0 (Kd.R k29 29 w' w.heap.size (fun k_ => some k_ ≠ ((.slice Ao17 t683.length co17) : Value).ownBlock ∧ some k_ ≠ (v693 : Value).ownBlock) (.slice Ao18 t689.length co18) t689) ∧ Aside0 (Kd.R k29 29 w' w.heap.size (fun k_ => some k_ ≠ ((.slice Ao17 t683.length co17) : Value).ownBlock ∧ some k_ ≠ ((.slice Ao18 t689.length co18) : Value).ownBlock) v693 t692) ∧ Aside0 (Below w.heap.size w w'))
    case atStart => exact ⟨(0), (by first | rfl | (simp; done) | (simp [*]; done)), H', ⟨Nat.le_refl _⟩, ⟨by (with_reducible repeat (first | apply Kd.R_alloc | apply Kd.R_drewN | apply Kd.R_drew)); exact Kd.R_mono HO685.out (fun _ hk => ⟨hk.1.2, hk.2⟩)⟩, ⟨by (with_reducible repeat (first | apply Kd.R_alloc | apply Kd.R_drewN | apply Kd.R_drew)); exact Kd.R_mono HO691.out (fun _ hk => ⟨hk.1.1.2, hk.2⟩)⟩, ⟨by (with_reducible repeat (first | apply Kd.R_alloc | apply Kd.R_drewN | apply Kd.R_drew)); exact Kd.R_mono HO694.out (fun _ hk => ⟨hk.1.1.2, hk.2⟩)⟩, ⟨by repeat (first | (with_reducible first | exact HB.out | apply below_alloc | apply pw_below_drewN | apply below_drew1) | exact HB.out)⟩⟩
    case round =>
      clear H'
      try clear c1
      try clear c2
      try clear p2
      try clear c4
      try clear c9
      try clear c15
      try clear c16
      obtain ⟨x9_1, rfl, HA, HK1, HO_6, HO_7, HO_8, HB⟩ := hrel
      cases gk with
      | zero => exact absurd HA.out (by simp [archivistlaw06_LabelWith.l0])
      | succ k1 =>
        have H := HA.out
        clear HA
        simp only [archivistlaw06_LabelWith.l0] at H
        by_cases c20 : x9_1 < (t692.length : Int)
        · rw [if_pos c20] at H
          have c20b0 : decide (x9_1 < (t692.length : Int)) = true := decide_eq_true c20
          clear c20
          by_cases c21 : 0 ≤ x9_1
          · rw [if_pos c21] at H
            have c21b0 : decide (0 ≤ x9_1) = true := decide_eq_true c21
            clear c21
            replace H := Option.bind_eq_some_iff.mp H
            obtain ⟨⟨t696, t697⟩, A220, H⟩ := H
            replace H : ((label_Set_Get.f k1 t683 ((rd_T29 t692 x9_1).f0)).bind fun bt699 => (if t697 = true then (if ((rd_T29 t692 x9_1).f1).toList = t696.toList then (archivistlaw06_LabelWith.l0 k1 true t683 t689 t692 (wrap64 (x9_1 + 1))) else (none)) else (if bt699.2 = true then (if ((rd_T29 t692 x9_1).f1).toList = bt699.1.toList then (archivistlaw06_LabelWith.l0 k1 true t683 t689 t692 (wrap64 (x9_1 + 1))) else (none)) else (none)))) = some r := H
            have A22 := Aside0.mk A220
            clear A220
            replace H := Option.bind_eq_some_iff.mp H
            obtain ⟨⟨t699, t700⟩, A230, H⟩ := H
            replace H : (if t697 = true then (if ((rd_T29 t692 x9_1).f1).toList = t696.toList then (archivistlaw06_LabelWith.l0 k1 true t683 t689 t692 (wrap64 (x9_1 + 1))) else (none)) else (if t700 = true then (if ((rd_T29 t692 x9_1).f1).toList = t699.toList then (archivistlaw06_LabelWith.l0 k1 true t683 t689 t692 (wrap64 (x9_1 + 1))) else (none)) else (none))) = some r := H
            have A23 := Aside0.mk A230
            clear A230
            by_cases c24 : t697 = true
            · subst c24
              have H1 : (if ((rd_T29 t692 x9_1).f1).toList = t696.toList then (archivistlaw06_LabelWith.l0 k1 true t683 t689 t692 (wrap64 (x9_1 + 1))) else (none)) = some r := by rw [if_pos rfl] at H; exact H
              clear H
              have H := H1
              clear H1
              by_cases c25 : ((rd_T29 t692 x9_1).f1).toList = t696.toList
              · rw [if_pos c25] at H
                have c25b0 : (((rd_T29 t692 x9_1).f1).toList == t696.toList) = true := beq_iff_eq.mpr c25
                have c25b1 : (((rd_T29 t692 x9_1).f1).toList != t696.toList) = false := bne_eq_false_iff_eq.mpr c25
                clear c25
                have H' := Aside0.mk H
                clear H
                obtain ⟨Ao26, co26, eo26⟩ := Kd.R_slice HO_8.out
                subst eo26
                have p695 : 0 ≤ (x9_1 : Int) := of_decide_eq_true (by first | (with_reducible assumption) | assumption)
                have q695 : x9_1 < (t692.length : Int) := of_decide_eq_true (by first | (with_reducible assumption) | assumption)
                obtain ⟨ad695, e695, hx695_0, hx695_1⟩ := at_T29 (Kd.R_reads' HO_8.out).2.2 x9_1 p695 q695
                cases e695
                replace p695 := eq_true p695
                replace q695 := eq_true q695
                go_wp2_with (first | ((with_reducible refine gate_callee (f := 18) rfl ?_); refine goesL_ (some 43) rfl rfl Try.func18 (by kernel_rfl) rfl #[.slice Ao18 t689.length co18, .string ((rd_T29 t692 x9_1).f0)] rfl (by (try simp only [List.map_toArray, List.map_cons, List.map_nil]); first | done | rfl | (simp only [List.length_drop, List.length_take]; rfl)) ?_; (with_reducible refine (label_Set_Get.calls k1 _ _ t689 ((rd_T29 t692 x9_1).f0) t696 true _ ?side1 ?side2 A22.out).mono ?_); (case side1 => repeat (first | exact (Kd.R_reads' HO_7.out).2.2 | (with_reducible refine Kd.C_alloc ?_ _) | (with_reducible refine Kd.C_drewN ?_ _) | (with_reducible refine Kd.C_drew ?_))); (case side2 => exact (Kd.R_reads' HO_7.out).2.1); rintro e w27 ⟨rfl, hb⟩; refine ⟨_, rfl, ?_⟩; have n0_ := Aside0.mk (Kd.R_below (by (with_reducible repeat (first | apply Kd.R_alloc | apply Kd.R_drewN | apply Kd.R_drew)); exact HO_6.out) hb); have n1_ := Aside0.mk (Kd.R_below (by (with_reducible repeat (first | apply Kd.R_alloc | apply Kd.R_drewN | apply Kd.R_drew)); exact HO_7.out) hb); have n2_ := Aside0.mk (Kd.R_below (by (with_reducible repeat (first | apply Kd.R_alloc | apply Kd.R_drewN | apply Kd.R_drew)); exact HO_8.out) hb); have n3_ := Aside0.mk (below_step (by repeat (first | (with_reducible first | exact HB.out | apply below_alloc | apply pw_below_drewN | apply below_drew1) | exact HB.out)) hb); clear HO_6; clear HO_7; clear HO_8; clear HB; have HO_6 := n0_; have HO_7 := n1_; have HO_8 := n2_; have HB := n3_; clear n0_ n1_ n2_ n3_; (try clear hb); (try clear hb2); (try clear hk); (try clear hi); have p698 : 0 ≤ (x9_1 : Int) := of_decide_eq_true (by first | (with_reducible assumption) | assumption); have q698 : x9_1 < (t692.length : Int) := of_decide_eq_true (by first | (with_reducible assumption) | assumption); obtain ⟨ad698, e698, hx698_0, hx698_1⟩ := at_T29 (Kd.R_reads' HO_8.out).2.2 x9_1 p698 q698; obtain rfl : ad695 = ad698 := (by injection e698); replace p698 := eq_true p698; replace q698 := eq_true q698) | ((with_reducible refine gate_callee (f := 18) rfl ?_); refine goesL_ (some 53) rfl rfl Try.func18 (by kernel_rfl) rfl #[.slice Ao17 t683.length co17, .string ((rd_T29 t692 x9_1).f0)] rfl (by (try simp only [List.map_toArray, List.map_cons, List.map_nil]); first | done | rfl | (simp only [List.length_drop, List.length_take]; rfl)) ?_; (with_reducible refine (label_Set_Get.calls k1 _ _ t683 ((rd_T29 t692 x9_1).f0) t699 t700 _ ?side1 ?side2 A23.out).mono ?_); (case side1 => repeat (first | exact (Kd.R_reads' HO_6.out).2.2 | (with_reducible refine Kd.C_alloc ?_ _) | (with_reducible refine Kd.C_drewN ?_ _) | (with_reducible refine Kd.C_drew ?_))); (case side2 => exact (Kd.R_reads' HO_6.out).2.1); rintro e w28 ⟨rfl, hb⟩; refine ⟨_, rfl, ?_⟩; have n0_ := Aside0.mk (Kd.R_below (by (with_reducible repeat (first | apply Kd.R_alloc | apply Kd.R_drewN | apply Kd.R_drew)); exact HO_6.out) hb); have n1_ := Aside0.mk (Kd.R_below (by (with_reducible repeat (first | apply Kd.R_alloc | apply Kd.R_drewN | apply Kd.R_drew)); exact HO_7.out) hb); have n2_ := Aside0.mk (Kd.R_below (by (with_reducible repeat (first | apply Kd.R_alloc | apply Kd.R_drewN | apply Kd.R_drew)); exact HO_8.out) hb); have n3_ := Aside0.mk (below_step (by repeat (first | (with_reducible first | exact HB.out | apply below_alloc | apply pw_below_drewN | apply below_drew1) | exact HB.out)) hb); clear HO_6; clear HO_7; clear HO_8; clear HB; have HO_6 := n0_; have HO_7 := n1_; have HO_8 := n2_; have HB := n3_; clear n0_ n1_ n2_ n3_; (try clear hb); (try clear hb2); (try clear hk); (try clear hi); have p701 : 0 ≤ (x9_1 : Int) := of_decide_eq_true (by first | (with_reducible assumption) | assumption); have q701 : x9_1 < (t692.length : Int) := of_decide_eq_true (by first | (with_reducible assumption) | assumption); obtain ⟨ad701, e701, hx701_0, hx701_1⟩ := at_T29 (Kd.R_reads' HO_8.out).2.2 x9_1 p701 q701; obtain rfl : ad695 = ad701 := (by injection e701); replace p701 := eq_true p701; replace q701 := eq_true q701))
                go_roundg k1
                case measure => have := HK1.out; omega
                case rel => exact ⟨(wrap64 (x9_1 + 1)), (by first | rfl | (simp; done) | (simp [*]; done)), H', ⟨by have := HK1.out; omega⟩, ⟨by (with_reducible repeat (first | apply Kd.R_alloc | apply Kd.R_drewN | apply Kd.R_drew)); exact HO_6.out⟩, ⟨by (with_reducible repeat (first | apply Kd.R_alloc | apply Kd.R_drewN | apply Kd.R_drew)); exact HO_7.out⟩, ⟨by (with_reducible repeat (first | apply Kd.R_alloc | apply Kd.R_drewN | apply Kd.R_drew)); exact HO_8.out⟩, ⟨by repeat (first | (with_reducible first | exact HB.out | apply below_alloc | apply pw_below_drewN | apply below_drew1) | exact HB.out)⟩⟩
              · rw [if_neg c25] at H
                exact absurd H (by simp)
            · replace c24 := Bool.eq_false_iff.mpr c24
              subst c24
              have H1 : (if t700 = true then (if ((rd_T29 t692 x9_1).f1).toList = t699.toList then (archivistlaw06_LabelWith.l0 k1 true t683 t689 t692 (wrap64 (x9_1 + 1))) else (none)) else (none)) = some r := by rw [if_neg (show ¬ (false = true) by decide)] at H; exact H
              clear H
              have H := H1
              clear H1
              by_cases c29 : t700 = true
              · subst c29
                have H1 : (if ((rd_T29 t692 x9_1).f1).toList = t699.toList then (archivistlaw06_LabelWith.l0 k1 true t683 t689 t692 (wrap64 (x9_1 + 1))) else (none)) = some r := by rw [if_pos rfl] at H; exact H
                clear H
                have H := H1
                clear H1
                by_cases c30 : ((rd_T29 t692 x9_1).f1).toList = t699.toList
                · rw [if_pos c30] at H
                  have c30b0 : (((rd_T29 t692 x9_1).f1).toList == t699.toList) = true := beq_iff_eq.mpr c30
                  have c30b1 : (((rd_T29 t692 x9_1).f1).toList != t699.toList) = false := bne_eq_false_iff_eq.mpr c30
                  clear c30
                  have H' := Aside0.mk H
                  clear H
                  obtain ⟨Ao31, co31, eo31⟩ := Kd.R_slice HO_8.out
                  subst eo31
                  have p695 : 0 ≤ (x9_1 : Int) := of_decide_eq_true (by first | (with_reducible assumption) | assumption)
                  have q695 : x9_1 < (t692.length : Int) := of_decide_eq_true (by first | (with_reducible assumption) | assumption)
                  obtain ⟨ad695, e695, hx695_0, hx695_1⟩ := at_T29 (Kd.R_reads' HO_8.out).2.2 x9_1 p695 q695
                  cases e695
                  replace p695 := eq_true p695
                  replace q695 := eq_true q695
                  go_wp2_with (first | ((with_reducible refine gate_callee (f := 18) rfl ?_); refine goesL_ (some 43) rfl rfl Try.func18 (by kernel_rfl) rfl #[.slice Ao18 t689.length co18, .string ((rd_T29 t692 x9_1).f0)] rfl (by (try simp only [List.map_toArray, List.map_cons, List.map_nil]); first | done | rfl | (simp only [List.length_drop, List.length_take]; rfl)) ?_; (with_reducible refine (label_Set_Get.calls k1 _ _ t689 ((rd_T29 t692 x9_1).f0) t696 false _ ?side1 ?side2 A22.out).mono ?_); (case side1 => repeat (first | exact (Kd.R_reads' HO_7.out).2.2 | (with_reducible refine Kd.C_alloc ?_ _) | (with_reducible refine Kd.C_drewN ?_ _) | (with_reducible refine Kd.C_drew ?_))); (case side2 => exact (Kd.R_reads' HO_7.out).2.1); rintro e w32 ⟨rfl, hb⟩; refine ⟨_, rfl, ?_⟩; have n0_ := Aside0.mk (Kd.R_below (by (with_reducible repeat (first | apply Kd.R_alloc | apply Kd.R_drewN | apply Kd.R_drew)); exact HO_6.out) hb); have n1_ := Aside0.mk (Kd.R_below (by (with_reducible repeat (first | apply Kd.R_alloc | apply Kd.R_drewN | apply Kd.R_drew)); exact HO_7.out) hb); have n2_ := Aside0.mk (Kd.R_below (by (with_reducible repeat (first | apply Kd.R_alloc | apply Kd.R_drewN | apply Kd.R_drew)); exact HO_8.out) hb); have n3_ := Aside0.mk (below_step (by repeat (first | (with_reducible first | exact HB.out | apply below_alloc | apply pw_below_drewN | apply below_drew1) | exact HB.out)) hb); clear HO_6; clear HO_7; clear HO_8; clear HB; have HO_6 := n0_; have HO_7 := n1_; have HO_8 := n2_; have HB := n3_; clear n0_ n1_ n2_ n3_; (try clear hb); (try clear hb2); (try clear hk); (try clear hi); have p698 : 0 ≤ (x9_1 : Int) := of_decide_eq_true (by first | (with_reducible assumption) | assumption); have q698 : x9_1 < (t692.length : Int) := of_decide_eq_true (by first | (with_reducible assumption) | assumption); obtain ⟨ad698, e698, hx698_0, hx698_1⟩ := at_T29 (Kd.R_reads' HO_8.out).2.2 x9_1 p698 q698; obtain rfl : ad695 = ad698 := (by injection e698); replace p698 := eq_true p698; replace q698 := eq_true q698) | ((with_reducible refine gate_callee (f := 18) rfl ?_); refine goesL_ (some 53) rfl rfl Try.func18 (by kernel_rfl) rfl #[.slice Ao17 t683.length co17, .string ((rd_T29 t692 x9_1).f0)] rfl (by (try simp only [List.map_toArray, List.map_cons, List.map_nil]); first | done | rfl | (simp only [List.length_drop, List.length_take]; rfl)) ?_; (with_reducible refine (label_Set_Get.calls k1 _ _ t683 ((rd_T29 t692 x9_1).f0) t699 true _ ?side1 ?side2 A23.out).mono ?_); (case side1 => repeat (first | exact (Kd.R_reads' HO_6.out).2.2 | (with_reducible refine Kd.C_alloc ?_ _) | (with_reducible refine Kd.C_drewN ?_ _) | (with_reducible refine Kd.C_drew ?_))); (case side2 => exact (Kd.R_reads' HO_6.out).2.1); rintro e w33 ⟨rfl, hb⟩; refine ⟨_, rfl, ?_⟩; have n0_ := Aside0.mk (Kd.R_below (by (with_reducible repeat (first | apply Kd.R_alloc | apply Kd.R_drewN | apply Kd.R_drew)); exact HO_6.out) hb); have n1_ := Aside0.mk (Kd.R_below (by (with_reducible repeat (first | apply Kd.R_alloc | apply Kd.R_drewN | apply Kd.R_drew)); exact HO_7.out) hb); have n2_ := Aside0.mk (Kd.R_below (by (with_reducible repeat (first | apply Kd.R_alloc | apply Kd.R_drewN | apply Kd.R_drew)); exact HO_8.out) hb); have n3_ := Aside0.mk (below_step (by repeat (first | (with_reducible first | exact HB.out | apply below_alloc | apply pw_below_drewN | apply below_drew1) | exact HB.out)) hb); clear HO_6; clear HO_7; clear HO_8; clear HB; have HO_6 := n0_; have HO_7 := n1_; have HO_8 := n2_; have HB := n3_; clear n0_ n1_ n2_ n3_; (try clear hb); (try clear hb2); (try clear hk); (try clear hi); have p702 : 0 ≤ (x9_1 : Int) := of_decide_eq_true (by first | (with_reducible assumption) | assumption); have q702 : x9_1 < (t692.length : Int) := of_decide_eq_true (by first | (with_reducible assumption) | assumption); obtain ⟨ad702, e702, hx702_0, hx702_1⟩ := at_T29 (Kd.R_reads' HO_8.out).2.2 x9_1 p702 q702; obtain rfl : ad695 = ad702 := (by injection e702); replace p702 := eq_true p702; replace q702 := eq_true q702))
                  go_roundg k1
                  case measure => have := HK1.out; omega
                  case rel => exact ⟨(wrap64 (x9_1 + 1)), (by first | rfl | (simp; done) | (simp [*]; done)), H', ⟨by have := HK1.out; omega⟩, ⟨by (with_reducible repeat (first | apply Kd.R_alloc | apply Kd.R_drewN | apply Kd.R_drew)); exact HO_6.out⟩, ⟨by (with_reducible repeat (first | apply Kd.R_alloc | apply Kd.R_drewN | apply Kd.R_drew)); exact HO_7.out⟩, ⟨by (with_reducible repeat (first | apply Kd.R_alloc | apply Kd.R_drewN | apply Kd.R_drew)); exact HO_8.out⟩, ⟨by repeat (first | (with_reducible first | exact HB.out | apply below_alloc | apply pw_below_drewN | apply below_drew1) | exact HB.out)⟩⟩
                · rw [if_neg c30] at H
                  exact absurd H (by simp)
              · replace c29 := Bool.eq_false_iff.mpr c29
                subst c29
                have H1 : (none) = some r := by rw [if_neg (show ¬ (false = true) by decide)] at H; exact H
                clear H
                have H := H1
                clear H1
                exact absurd H (by simp)
          · rw [if_neg c21] at H
            exact absurd H (by simp)
        · rw [if_neg c20] at H
          have c20b0 : decide (x9_1 < (t692.length : Int)) = false := decide_eq_false c20
          clear c20
          have H' := Aside0.mk H
          clear H
          obtain ⟨Ao34, co34, eo34⟩ := Kd.R_slice HO_8.out
          subst eo34
          go_wp2
          go_loopg [14, 15] k1 (fun kq v14 v15 w' => ∃ (x14_2 : Int) (x15_2 : Int), v14 = .int .i64 x14_2 ∧ v15 = .int .i64 x15_2 ∧ Aside0 (archivistlaw06_LabelWith.l1 kq true t683 t689 t692 x14_2 x15_2 = some r) ∧ Aside0 (kq ≤ k1) ∧ Aside0 (Kd.R k29 29 w' w.heap.size (fun k_ => some k_ ≠ ((.slice Ao18 t689.length co18) : Value).ownBlock ∧ some k_ ≠ ((.slice Ao34 t692.length co34) : Value).ownBlock) (.slice Ao17 t683.length co17) t683) ∧ Aside0 (Kd.R k29 29 w' w.heap.size (fun k_ => some k_ ≠ ((.slice Ao17 t683.length co17) : Value).ownBlock ∧ some k_ ≠ ((.slice Ao34 t692.length co34) : Value).ownBlock) (.slice Ao18 t689.length co18) t689) ∧ Aside0 (Kd.R k29 29 w' w.heap.size (fun k_ => some k_ ≠ ((.slice Ao17 t683.length co17) : Value).ownBlock ∧ some k_ ≠ ((.slice Ao18 t689.length co18) : Value).ownBlock) (.slice Ao34 t692.length co34) t692) ∧ Aside0 (Below w.heap.size w w'))
          case atStart => exact ⟨((t689.length : Int)), (0), (by first | rfl | (simp; done) | (simp [*]; done)), (by first | rfl | (simp; done) | (simp [*]; done)), H', ⟨Nat.le_refl _⟩, ⟨by (with_reducible repeat (first | apply Kd.R_alloc | apply Kd.R_drewN | apply Kd.R_drew)); exact HO_6.out⟩, ⟨by (with_reducible repeat (first | apply Kd.R_alloc | apply Kd.R_drewN | apply Kd.R_drew)); exact HO_7.out⟩, ⟨by (with_reducible repeat (first | apply Kd.R_alloc | apply Kd.R_drewN | apply Kd.R_drew)); exact HO_8.out⟩, ⟨by repeat (first | (with_reducible first | exact HB.out | apply below_alloc | apply pw_below_drewN | apply below_drew1) | exact HB.out)⟩⟩
          case round =>
            clear H'
            try clear c1
            try clear c2
            try clear p2
            try clear c3
            try clear c4
            try clear p6
            try clear q6
            try clear hx6
            try clear p7
            try clear q7
            try clear hx7
            try clear c9
            try clear c15
            try clear c16
            try clear c18
            try clear c20
            try clear c20b0
            try clear c21
            try clear c21b0
            try clear c23
            try clear c24
            try clear c25
            try clear c25b0
            try clear c25b1
            try clear c29
            try clear c30
            try clear c30b0
            try clear c30b1
            try clear hx695_0
            try clear hx695_1
            try clear hx698_0
            try clear hx698_1
            try clear hx701_0
            try clear hx701_1
            try clear hx702_0
            try clear hx702_1
            try clear p2
            try clear p695
            try clear p698
            try clear p701
            try clear p702
            try clear q695
            try clear q698
            try clear q701
            try clear q702
            obtain ⟨x14_2, x15_2, rfl, rfl, HA, HK2, HO_6, HO_7, HO_8, HB⟩ := hrel
            cases gk with
            | zero => exact absurd HA.out (by simp [archivistlaw06_LabelWith.l1])
            | succ k2 =>
              have H := HA.out
              clear HA
              simp only [archivistlaw06_LabelWith.l1] at H
              by_cases c35 : x15_2 < (t683.length : Int)
              · rw [if_pos c35] at H
                have c35b0 : decide (x15_2 < (t683.length : Int)) = true := decide_eq_true c35
                clear c35
                by_cases c36 : 0 ≤ x15_2
                · rw [if_pos c36] at H
                  have c36b0 : decide (0 ≤ x15_2) = true := decide_eq_true c36
                  clear c36
                  replace H := Option.bind_eq_some_iff.mp H
                  obtain ⟨⟨t704, t705⟩, A370, H⟩ := H
                  replace H : (if t705 = true then (archivistlaw06_LabelWith.l1 k2 true t683 t689 t692 x14_2 (wrap64 (x15_2 + 1))) else (archivistlaw06_LabelWith.l1 k2 true t683 t689 t692 (wrap64 (x14_2 + 1)) (wrap64 (x15_2 + 1)))) = some r := H
                  have A37 := Aside0.mk A370
                  clear A370
                  by_cases c38 : t705 = true
                  · subst c38
                    have H1 : (archivistlaw06_LabelWith.l1 k2 true t683 t689 t692 x14_2 (wrap64 (x15_2 + 1))) = some r := by rw [if_pos rfl] at H; exact H
                    clear H
                    have H := H1
                    clear H1
                    have H' := Aside0.mk H
                    clear H
                    have p703 : 0 ≤ (x15_2 : Int) := of_decide_eq_true (by first | (with_reducible assumption) | assumption)
                    have q703 : x15_2 < (t683.length : Int) := of_decide_eq_true (by first | (with_reducible assumption) | assumption)
                    obtain ⟨ad703, e703, hx703_0, hx703_1⟩ := at_T29 (Kd.R_reads' HO_6.out).2.2 x15_2 p703 q703
                    cases e703
                    replace p703 := eq_true p703
                    replace q703 := eq_true q703
                    go_wp2_with (first | ((with_reducible refine gate_callee (f := 18) rfl ?_); refine goesL_ (some 98) rfl rfl Try.func18 (by kernel_rfl) rfl #[.slice Ao18 t689.length co18, .string ((rd_T29 t683 x15_2).f0)] rfl (by (try simp only [List.map_toArray, List.map_cons, List.map_nil]); first | done | rfl | (simp only [List.length_drop, List.length_take]; rfl)) ?_; (with_reducible refine (label_Set_Get.calls k2 _ _ t689 ((rd_T29 t683 x15_2).f0) t704 true _ ?side1 ?side2 A37.out).mono ?_); (case side1 => repeat (first | exact (Kd.R_reads' HO_7.out).2.2 | (with_reducible refine Kd.C_alloc ?_ _) | (with_reducible refine Kd.C_drewN ?_ _) | (with_reducible refine Kd.C_drew ?_))); (case side2 => exact (Kd.R_reads' HO_7.out).2.1); rintro e w39 ⟨rfl, hb⟩; refine ⟨_, rfl, ?_⟩; have n0_ := Aside0.mk (Kd.R_below (by (with_reducible repeat (first | apply Kd.R_alloc | apply Kd.R_drewN | apply Kd.R_drew)); exact HO_6.out) hb); have n1_ := Aside0.mk (Kd.R_below (by (with_reducible repeat (first | apply Kd.R_alloc | apply Kd.R_drewN | apply Kd.R_drew)); exact HO_7.out) hb); have n2_ := Aside0.mk (Kd.R_below (by (with_reducible repeat (first | apply Kd.R_alloc | apply Kd.R_drewN | apply Kd.R_drew)); exact HO_8.out) hb); have n3_ := Aside0.mk (below_step (by repeat (first | (with_reducible first | exact HB.out | apply below_alloc | apply pw_below_drewN | apply below_drew1) | exact HB.out)) hb); clear HO_6; clear HO_7; clear HO_8; clear HB; have HO_6 := n0_; have HO_7 := n1_; have HO_8 := n2_; have HB := n3_; clear n0_ n1_ n2_ n3_; (try clear hb); (try clear hb2); (try clear hk); (try clear hi)))
                    go_roundg k2
                    case measure => have := HK1.out; have := HK2.out; omega
                    case rel => exact ⟨(x14_2), (wrap64 (x15_2 + 1)), (by first | rfl | (simp; done) | (simp [*]; done)), (by first | rfl | (simp; done) | (simp [*]; done)), H', ⟨by have := HK1.out; have := HK2.out; omega⟩, ⟨by (with_reducible repeat (first | apply Kd.R_alloc | apply Kd.R_drewN | apply Kd.R_drew)); exact HO_6.out⟩, ⟨by (with_reducible repeat (first | apply Kd.R_alloc | apply Kd.R_drewN | apply Kd.R_drew)); exact HO_7.out⟩, ⟨by (with_reducible repeat (first | apply Kd.R_alloc | apply Kd.R_drewN | apply Kd.R_drew)); exact HO_8.out⟩, ⟨by repeat (first | (with_reducible first | exact HB.out | apply below_alloc | apply pw_below_drewN | apply below_drew1) | exact HB.out)⟩⟩
                  · replace c38 := Bool.eq_false_iff.mpr c38
                    subst c38
                    have H1 : (archivistlaw06_LabelWith.l1 k2 true t683 t689 t692 (wrap64 (x14_2 + 1)) (wrap64 (x15_2 + 1))) = some r := by rw [if_neg (show ¬ (false = true) by decide)] at H; exact H
                    clear H
                    have H := H1
                    clear H1
                    have H' := Aside0.mk H
                    clear H
                    have p703 : 0 ≤ (x15_2 : Int) := of_decide_eq_true (by first | (with_reducible assumption) | assumption)
                    have q703 : x15_2 < (t683.length : Int) := of_decide_eq_true (by first | (with_reducible assumption) | assumption)
                    obtain ⟨ad703, e703, hx703_0, hx703_1⟩ := at_T29 (Kd.R_reads' HO_6.out).2.2 x15_2 p703 q703
                    cases e703
                    replace p703 := eq_true p703
                    replace q703 := eq_true q703
                    go_wp2_with (first | ((with_reducible refine gate_callee (f := 18) rfl ?_); refine goesL_ (some 98) rfl rfl Try.func18 (by kernel_rfl) rfl #[.slice Ao18 t689.length co18, .string ((rd_T29 t683 x15_2).f0)] rfl (by (try simp only [List.map_toArray, List.map_cons, List.map_nil]); first | done | rfl | (simp only [List.length_drop, List.length_take]; rfl)) ?_; (with_reducible refine (label_Set_Get.calls k2 _ _ t689 ((rd_T29 t683 x15_2).f0) t704 false _ ?side1 ?side2 A37.out).mono ?_); (case side1 => repeat (first | exact (Kd.R_reads' HO_7.out).2.2 | (with_reducible refine Kd.C_alloc ?_ _) | (with_reducible refine Kd.C_drewN ?_ _) | (with_reducible refine Kd.C_drew ?_))); (case side2 => exact (Kd.R_reads' HO_7.out).2.1); rintro e w40 ⟨rfl, hb⟩; refine ⟨_, rfl, ?_⟩; have n0_ := Aside0.mk (Kd.R_below (by (with_reducible repeat (first | apply Kd.R_alloc | apply Kd.R_drewN | apply Kd.R_drew)); exact HO_6.out) hb); have n1_ := Aside0.mk (Kd.R_below (by (with_reducible repeat (first | apply Kd.R_alloc | apply Kd.R_drewN | apply Kd.R_drew)); exact HO_7.out) hb); have n2_ := Aside0.mk (Kd.R_below (by (with_reducible repeat (first | apply Kd.R_alloc | apply Kd.R_drewN | apply Kd.R_drew)); exact HO_8.out) hb); have n3_ := Aside0.mk (below_step (by repeat (first | (with_reducible first | exact HB.out | apply below_alloc | apply pw_below_drewN | apply below_drew1) | exact HB.out)) hb); clear HO_6; clear HO_7; clear HO_8; clear HB; have HO_6 := n0_; have HO_7 := n1_; have HO_8 := n2_; have HB := n3_; clear n0_ n1_ n2_ n3_; (try clear hb); (try clear hb2); (try clear hk); (try clear hi)))
                    go_roundg k2
                    case measure => have := HK1.out; have := HK2.out; omega
                    case rel => exact ⟨(wrap64 (x14_2 + 1)), (wrap64 (x15_2 + 1)), (by first | rfl | (simp; done) | (simp [*]; done)), (by first | rfl | (simp; done) | (simp [*]; done)), H', ⟨by have := HK1.out; have := HK2.out; omega⟩, ⟨by (with_reducible repeat (first | apply Kd.R_alloc | apply Kd.R_drewN | apply Kd.R_drew)); exact HO_6.out⟩, ⟨by (with_reducible repeat (first | apply Kd.R_alloc | apply Kd.R_drewN | apply Kd.R_drew)); exact HO_7.out⟩, ⟨by (with_reducible repeat (first | apply Kd.R_alloc | apply Kd.R_drewN | apply Kd.R_drew)); exact HO_8.out⟩, ⟨by repeat (first | (with_reducible first | exact HB.out | apply below_alloc | apply pw_below_drewN | apply below_drew1) | exact HB.out)⟩⟩
                · rw [if_neg c36] at H
                  exact absurd H (by simp)
              · rw [if_neg c35] at H
                have c35b0 : decide (x15_2 < (t683.length : Int)) = false := decide_eq_false c35
                clear c35
                by_cases c41 : true = true
                · clear c41
                  have H1 : (if (t692.length : Int) = x14_2 then ((label_Set_With.f k2 t692 t689).bind fun t706 => ((label_Same.f k2 t706 t692).bind fun t709 => (some t709))) else (none)) = some r := by first | (rw [if_pos rfl] at H; exact H) | (rw [if_pos trivial] at H; exact H)
                  clear H
                  have H := H1
                  clear H1
                  by_cases c42 : (t692.length : Int) = x14_2
                  · rw [if_pos c42] at H
                    have c42b0 : ((t692.length : Int) == x14_2) = true := beq_iff_eq.mpr c42
                    have c42b1 : ((t692.length : Int) != x14_2) = false := bne_eq_false_iff_eq.mpr c42
                    clear c42
                    replace H := Option.bind_eq_some_iff.mp H
                    obtain ⟨t706, A430, H⟩ := H
                    replace H : ((label_Same.f k2 t706 t692).bind fun t709 => (some t709)) = some r := H
                    have A43 := Aside0.mk A430
                    clear A430
                    replace H := Option.bind_eq_some_iff.mp H
                    obtain ⟨t709, A440, H⟩ := H
                    replace H : (some t709) = some r := H
                    have A44 := Aside0.mk A440
                    clear A440
                    obtain rfl := Option.some.inj H
                    go_wp2_with (first | (go_at_call 23; (with_reducible refine (label_Set_With.calls k2 (fun k_ => some k_ = (.slice Ao34 t692.length co34 : Value).ownBlock) _ _ t692 (fun k_ => some k_ = (.slice Ao18 t689.length co18 : Value).ownBlock) _ _ t689 t706 _ ?side1 ?side2 A43.out).mono ?_); (case side1 => exact Kd.R_V (Kd.R_tight rfl (HO_8.out))); (case side2 => exact Kd.R_V (Kd.R_tight rfl (HO_7.out))); rintro e w45 ⟨v707, rfl, ho0, hb⟩; have n0_ := Aside0.mk (Kd.R_elder' (by (with_reducible repeat (first | apply Kd.R_alloc | apply Kd.R_drewN | apply Kd.R_drew)); exact HO_6.out) (Kd.R_base ho0) hb); have n1_ := Aside0.mk (Kd.R_elder' (by (with_reducible repeat (first | apply Kd.R_alloc | apply Kd.R_drewN | apply Kd.R_drew)); exact HO_7.out) (Kd.R_base ho0) hb); have n2_ := Aside0.mk (Kd.R_elder' (by (with_reducible repeat (first | apply Kd.R_alloc | apply Kd.R_drewN | apply Kd.R_drew)); exact HO_8.out) (Kd.R_base ho0) hb); have n3_ := Aside0.mk (Kd.R_lower (Kd.R_new' (Kd.R_new' (Kd.R_new' (Kd.R_mono (ok' := fun k_ => True) ho0 (fun _ hk_ => trivial)) (Kd.R_lt (by (with_reducible repeat (first | apply Kd.R_alloc | apply Kd.R_drewN | apply Kd.R_drew)); exact HO_6.out))) (Kd.R_lt (by (with_reducible repeat (first | apply Kd.R_alloc | apply Kd.R_drewN | apply Kd.R_drew)); exact HO_7.out))) (Kd.R_lt (by (with_reducible repeat (first | apply Kd.R_alloc | apply Kd.R_drewN | apply Kd.R_drew)); exact HO_8.out))) (below_size (by repeat (first | (with_reducible first | exact HB.out | apply below_alloc | apply pw_below_drewN | apply below_drew1) | exact HB.out)))); have n4_ := Aside0.mk (below_step (by repeat (first | (with_reducible first | exact HB.out | apply below_alloc | apply pw_below_drewN | apply below_drew1) | exact HB.out)) hb); clear HO_6; clear HO_7; clear HO_8; clear HB; have HO_6 := n0_; have HO_7 := n1_; have HO_8 := n2_; have HO708 := n3_; have HB := n4_; clear n0_ n1_ n2_ n3_ n4_; (try clear hb); (try clear hb2); (try clear hk); (try clear hi); (try clear ho0); obtain ⟨Ao46, co46, eo46⟩ := Kd.R_slice HO708.out; subst eo46) | (go_at_call 33; (with_reducible refine (label_Same.calls k2 _ _ t706 _ _ t692 t709 _ ?side1 ?side2 ?side3 ?side4 A44.out).mono ?_); (case side1 => repeat (first | exact (Kd.R_reads' HO708.out).2.2 | (with_reducible refine Kd.C_alloc ?_ _) | (with_reducible refine Kd.C_drewN ?_ _) | (with_reducible refine Kd.C_drew ?_))); (case side2 => exact (Kd.R_reads' HO708.out).2.1); (case side3 => repeat (first | exact (Kd.R_reads' HO_8.out).2.2 | (with_reducible refine Kd.C_alloc ?_ _) | (with_reducible refine Kd.C_drewN ?_ _) | (with_reducible refine Kd.C_drew ?_))); (case side4 => exact (Kd.R_reads' HO_8.out).2.1); rintro e w' ⟨rfl, ⟨nd, rfl⟩⟩))
                    go_ret
                    exact ⟨by first | rfl | (simp [errW_none, errW_some] <;> rfl) | (simp [*, errW_none, errW_some] <;> rfl), by repeat (first | (with_reducible first | exact HB.out | apply below_alloc | apply pw_below_drewN | apply below_drew1) | exact HB.out)⟩
                  · rw [if_neg c42] at H
                    exact absurd H (by simp)
                · exact absurd rfl c41
  · replace c4 := Bool.eq_false_iff.mpr c4
    subst c4
    have H1 : (none) = some r := by rw [if_neg (show ¬ (false = true) by decide)] at H; exact H
    clear H
    have H := H1
    clear H1
    exact absurd H (by simp)

-- NOT PRINTED: function 69 (logfmt_scanner_field)

-- NOT PRINTED: function 41 (logfmt_All)

end Go.Proofs.Ytbkhgldinmabiaa.X
