-- Laid by xprint.py, a program of this session's, out of the translation.
import Derived.Test.YtifcnblgpnfehaaX0
import Derived.Test.YtifcnblgpnfehaaX2
import Derived.Test.YtifcnblgpnfehaaX4
import Derived.Test.YtifcnblgpnfehaaX5
import Derived.Test.YtifcnblgpnfehaaX6
import Derived.Test.YtifcnblgpnfehaaX7
import Derived.Test.YtifcnblgpnfehaaX8
namespace Go.Proofs.Ytifcnblgpnfehaa.X
open Go.RowKit Go.Proofs.YtifcnblgpnfehaaW.PrintWords Go.Proofs.YtifcnblgpnfehaaW.PrintLast Go.Proofs.YtifcnblgpnfehaaW.PrintMore
attribute [local go_sem] max2_int min2_int max_two min_two max_three min_three max_four min_four x_isSome   -- for this text's walks alone
set_option linter.unusedVariables false
set_option linter.unusedSimpArgs false

/-! ### archivistlaw01_QuotePuts: function 8 -/
def archivistlaw01_QuotePuts.f (k : Nat) (a0 : ByteArray) (a1 : ByteArray) (a2 : Int) (a3 : Int) (a4 : Int) : Option (Bool) := (archivistlaw01_examples.f k).bind fun t201 => (if t201 = true then ((archivistref01_Put.f k a0).bind fun t202 => (if (Int.tmod a2 4) = 1 then (if t202.size + a1.size ≤ 9223372036854775807 then ((quote_Get.f k (t202 ++ a1)).bind fun bt203 => ((archivistref01_Get.f k (t202 ++ a1)).bind fun bt206 => ((quote_Put.f k a0).bind fun t209 => (if t209.toList = t202.toList then (if bt203.1.toList = bt206.1.toList then (if bt203.2.1 = bt206.2.1 then (some (bt203.2.2 == bt206.2.2)) else (none)) else (none)) else (none))))) else (none)) else (if (Int.tmod a2 4) = 2 then ((archivistlaw01_bend.f t202 a3 a4).bind fun t210 => ((quote_Get.f k t210).bind fun bt211 => ((archivistref01_Get.f k t210).bind fun bt214 => ((quote_Put.f k a0).bind fun t217 => (if t217.toList = t202.toList then (if bt211.1.toList = bt214.1.toList then (if bt211.2.1 = bt214.2.1 then (some (bt211.2.2 == bt214.2.2)) else (none)) else (none)) else (none)))))) else (if (Int.tmod a2 4) = 3 then (if t202.size + a1.size ≤ 9223372036854775807 then ((archivistlaw01_bend.f (t202 ++ a1) a3 a4).bind fun t218 => ((quote_Get.f k t218).bind fun bt219 => ((archivistref01_Get.f k t218).bind fun bt222 => ((quote_Put.f k a0).bind fun t225 => (if t225.toList = t202.toList then (if bt219.1.toList = bt222.1.toList then (if bt219.2.1 = bt222.2.1 then (some (bt219.2.2 == bt222.2.2)) else (none)) else (none)) else (none)))))) else (none)) else ((quote_Get.f k a1).bind fun bt226 => ((archivistref01_Get.f k a1).bind fun bt229 => ((quote_Put.f k a0).bind fun t232 => (if t232.toList = t202.toList then (if bt226.1.toList = bt229.1.toList then (if bt226.2.1 = bt229.2.1 then (some (bt226.2.2 == bt229.2.2)) else (none)) else (none)) else (none))))))))) else (none))
theorem archivistlaw01_QuotePuts.mono : ∀ a0 a1 a2 a3 a4 k, LeO (archivistlaw01_QuotePuts.f k a0 a1 a2 a3 a4) (archivistlaw01_QuotePuts.f (k + 1) a0 a1 a2 a3 a4) := by
  intro a0 a1 a2 a3 a4 k
  unfold archivistlaw01_QuotePuts.f
  repeat' first
      | (with_reducible exact archivistlaw01_examples.mono _)
      | (with_reducible exact archivistref01_Get.mono _ _)
      | (with_reducible exact archivistref01_Put.mono _ _)
      | (with_reducible exact quote_Get.mono _ _)
      | (with_reducible exact quote_Put.mono _ _)
      | (with_reducible exact LeO.refl _)
      | (with_reducible exact LeO.none _)
      | (with_reducible refine LeO.ite ?_ ?_)
      | (with_reducible refine LeO.bind ?_ (fun _ => ?_))
      | exact archivistlaw01_examples.mono _
      | exact archivistref01_Get.mono _ _
      | exact archivistref01_Put.mono _ _
      | exact quote_Get.mono _ _
      | exact quote_Put.mono _ _
      | exact LeO.none _
      | refine LeO.ite ?_ ?_
      | refine LeO.bind ?_ (fun _ => ?_)
set_option maxHeartbeats 8000000 in
set_option maxRecDepth 100000 in
theorem archivistlaw01_QuotePuts.calls (k : Nat) (a0 : ByteArray) (a1 : ByteArray) (a2 : Int) (a3 : Int) (a4 : Int) (r : Bool) (w : World) (h : archivistlaw01_QuotePuts.f k a0 a1 a2 a3 a4 = some r) :
    Calls Try.prog 8 #[.string a0, .string a1, .int .u8 a2, .int .i64 a3, .int .u8 a4] w fun e w' => e = .returned (.bool r) ∧ Below w.heap.size w w' := by
  have HB := Aside0.mk (Below.refl w.heap.size w)
  have H : ((archivistlaw01_examples.f k).bind fun t201 => (if t201 = true then ((archivistref01_Put.f k a0).bind fun t202 => (if (Int.tmod a2 4) = 1 then (if t202.size + a1.size ≤ 9223372036854775807 then ((quote_Get.f k (t202 ++ a1)).bind fun bt203 => ((archivistref01_Get.f k (t202 ++ a1)).bind fun bt206 => ((quote_Put.f k a0).bind fun t209 => (if t209.toList = t202.toList then (if bt203.1.toList = bt206.1.toList then (if bt203.2.1 = bt206.2.1 then (some (bt203.2.2 == bt206.2.2)) else (none)) else (none)) else (none))))) else (none)) else (if (Int.tmod a2 4) = 2 then ((archivistlaw01_bend.f t202 a3 a4).bind fun t210 => ((quote_Get.f k t210).bind fun bt211 => ((archivistref01_Get.f k t210).bind fun bt214 => ((quote_Put.f k a0).bind fun t217 => (if t217.toList = t202.toList then (if bt211.1.toList = bt214.1.toList then (if bt211.2.1 = bt214.2.1 then (some (bt211.2.2 == bt214.2.2)) else (none)) else (none)) else (none)))))) else (if (Int.tmod a2 4) = 3 then (if t202.size + a1.size ≤ 9223372036854775807 then ((archivistlaw01_bend.f (t202 ++ a1) a3 a4).bind fun t218 => ((quote_Get.f k t218).bind fun bt219 => ((archivistref01_Get.f k t218).bind fun bt222 => ((quote_Put.f k a0).bind fun t225 => (if t225.toList = t202.toList then (if bt219.1.toList = bt222.1.toList then (if bt219.2.1 = bt222.2.1 then (some (bt219.2.2 == bt222.2.2)) else (none)) else (none)) else (none)))))) else (none)) else ((quote_Get.f k a1).bind fun bt226 => ((archivistref01_Get.f k a1).bind fun bt229 => ((quote_Put.f k a0).bind fun t232 => (if t232.toList = t202.toList then (if bt226.1.toList = bt229.1.toList then (if bt226.2.1 = bt229.2.1 then (some (bt226.2.2 == bt229.2.2)) else (none)) else (none)) else (none))))))))) else (none))) = some r := h
  clear h
  replace H := Option.bind_eq_some_iff.mp H
  obtain ⟨t201, A60, H⟩ := H
  replace H : (if t201 = true then ((archivistref01_Put.f k a0).bind fun t202 => (if (Int.tmod a2 4) = 1 then (if t202.size + a1.size ≤ 9223372036854775807 then ((quote_Get.f k (t202 ++ a1)).bind fun bt203 => ((archivistref01_Get.f k (t202 ++ a1)).bind fun bt206 => ((quote_Put.f k a0).bind fun t209 => (if t209.toList = t202.toList then (if bt203.1.toList = bt206.1.toList then (if bt203.2.1 = bt206.2.1 then (some (bt203.2.2 == bt206.2.2)) else (none)) else (none)) else (none))))) else (none)) else (if (Int.tmod a2 4) = 2 then ((archivistlaw01_bend.f t202 a3 a4).bind fun t210 => ((quote_Get.f k t210).bind fun bt211 => ((archivistref01_Get.f k t210).bind fun bt214 => ((quote_Put.f k a0).bind fun t217 => (if t217.toList = t202.toList then (if bt211.1.toList = bt214.1.toList then (if bt211.2.1 = bt214.2.1 then (some (bt211.2.2 == bt214.2.2)) else (none)) else (none)) else (none)))))) else (if (Int.tmod a2 4) = 3 then (if t202.size + a1.size ≤ 9223372036854775807 then ((archivistlaw01_bend.f (t202 ++ a1) a3 a4).bind fun t218 => ((quote_Get.f k t218).bind fun bt219 => ((archivistref01_Get.f k t218).bind fun bt222 => ((quote_Put.f k a0).bind fun t225 => (if t225.toList = t202.toList then (if bt219.1.toList = bt222.1.toList then (if bt219.2.1 = bt222.2.1 then (some (bt219.2.2 == bt222.2.2)) else (none)) else (none)) else (none)))))) else (none)) else ((quote_Get.f k a1).bind fun bt226 => ((archivistref01_Get.f k a1).bind fun bt229 => ((quote_Put.f k a0).bind fun t232 => (if t232.toList = t202.toList then (if bt226.1.toList = bt229.1.toList then (if bt226.2.1 = bt229.2.1 then (some (bt226.2.2 == bt229.2.2)) else (none)) else (none)) else (none))))))))) else (none)) = some r := H
  have A6 := Aside0.mk A60
  clear A60
  by_cases c7 : t201 = true
  · subst c7
    have H1 : ((archivistref01_Put.f k a0).bind fun t202 => (if (Int.tmod a2 4) = 1 then (if t202.size + a1.size ≤ 9223372036854775807 then ((quote_Get.f k (t202 ++ a1)).bind fun bt203 => ((archivistref01_Get.f k (t202 ++ a1)).bind fun bt206 => ((quote_Put.f k a0).bind fun t209 => (if t209.toList = t202.toList then (if bt203.1.toList = bt206.1.toList then (if bt203.2.1 = bt206.2.1 then (some (bt203.2.2 == bt206.2.2)) else (none)) else (none)) else (none))))) else (none)) else (if (Int.tmod a2 4) = 2 then ((archivistlaw01_bend.f t202 a3 a4).bind fun t210 => ((quote_Get.f k t210).bind fun bt211 => ((archivistref01_Get.f k t210).bind fun bt214 => ((quote_Put.f k a0).bind fun t217 => (if t217.toList = t202.toList then (if bt211.1.toList = bt214.1.toList then (if bt211.2.1 = bt214.2.1 then (some (bt211.2.2 == bt214.2.2)) else (none)) else (none)) else (none)))))) else (if (Int.tmod a2 4) = 3 then (if t202.size + a1.size ≤ 9223372036854775807 then ((archivistlaw01_bend.f (t202 ++ a1) a3 a4).bind fun t218 => ((quote_Get.f k t218).bind fun bt219 => ((archivistref01_Get.f k t218).bind fun bt222 => ((quote_Put.f k a0).bind fun t225 => (if t225.toList = t202.toList then (if bt219.1.toList = bt222.1.toList then (if bt219.2.1 = bt222.2.1 then (some (bt219.2.2 == bt222.2.2)) else (none)) else (none)) else (none)))))) else (none)) else ((quote_Get.f k a1).bind fun bt226 => ((archivistref01_Get.f k a1).bind fun bt229 => ((quote_Put.f k a0).bind fun t232 => (if t232.toList = t202.toList then (if bt226.1.toList = bt229.1.toList then (if bt226.2.1 = bt229.2.1 then (some (bt226.2.2 == bt229.2.2)) else (none)) else (none)) else (none))))))))) = some r := by rw [if_pos rfl] at H; exact H
    clear H
    have H := H1
    clear H1
    replace H := Option.bind_eq_some_iff.mp H
    obtain ⟨t202, A80, H⟩ := H
    replace H : (if (Int.tmod a2 4) = 1 then (if t202.size + a1.size ≤ 9223372036854775807 then ((quote_Get.f k (t202 ++ a1)).bind fun bt203 => ((archivistref01_Get.f k (t202 ++ a1)).bind fun bt206 => ((quote_Put.f k a0).bind fun t209 => (if t209.toList = t202.toList then (if bt203.1.toList = bt206.1.toList then (if bt203.2.1 = bt206.2.1 then (some (bt203.2.2 == bt206.2.2)) else (none)) else (none)) else (none))))) else (none)) else (if (Int.tmod a2 4) = 2 then ((archivistlaw01_bend.f t202 a3 a4).bind fun t210 => ((quote_Get.f k t210).bind fun bt211 => ((archivistref01_Get.f k t210).bind fun bt214 => ((quote_Put.f k a0).bind fun t217 => (if t217.toList = t202.toList then (if bt211.1.toList = bt214.1.toList then (if bt211.2.1 = bt214.2.1 then (some (bt211.2.2 == bt214.2.2)) else (none)) else (none)) else (none)))))) else (if (Int.tmod a2 4) = 3 then (if t202.size + a1.size ≤ 9223372036854775807 then ((archivistlaw01_bend.f (t202 ++ a1) a3 a4).bind fun t218 => ((quote_Get.f k t218).bind fun bt219 => ((archivistref01_Get.f k t218).bind fun bt222 => ((quote_Put.f k a0).bind fun t225 => (if t225.toList = t202.toList then (if bt219.1.toList = bt222.1.toList then (if bt219.2.1 = bt222.2.1 then (some (bt219.2.2 == bt222.2.2)) else (none)) else (none)) else (none)))))) else (none)) else ((quote_Get.f k a1).bind fun bt226 => ((archivistref01_Get.f k a1).bind fun bt229 => ((quote_Put.f k a0).bind fun t232 => (if t232.toList = t202.toList then (if bt226.1.toList = bt229.1.toList then (if bt226.2.1 = bt229.2.1 then (some (bt226.2.2 == bt229.2.2)) else (none)) else (none)) else (none)))))))) = some r := H
    have A8 := Aside0.mk A80
    clear A80
    by_cases c9 : (Int.tmod a2 4) = 1
    · rw [if_pos c9] at H
      have c9b0 : ((Int.tmod a2 4) == 1) = true := beq_iff_eq.mpr c9
      have c9b1 : ((Int.tmod a2 4) != 1) = false := bne_eq_false_iff_eq.mpr c9
      clear c9
      by_cases c10 : t202.size + a1.size ≤ 9223372036854775807
      · rw [if_pos c10] at H
        have c10b0 := eq_true c10
        have c10b1 : decide (t202.size + a1.size ≤ 9223372036854775807) = true := decide_eq_true c10
        try have c10b2 : (9223372036854775807 < t202.size + a1.size) = False := eq_false (Nat.not_lt.2 c10)
        replace H := Option.bind_eq_some_iff.mp H
        obtain ⟨⟨t203, t204, t205⟩, A110, H⟩ := H
        replace H : ((archivistref01_Get.f k (t202 ++ a1)).bind fun bt206 => ((quote_Put.f k a0).bind fun t209 => (if t209.toList = t202.toList then (if t203.toList = bt206.1.toList then (if t204 = bt206.2.1 then (some (t205 == bt206.2.2)) else (none)) else (none)) else (none)))) = some r := H
        have A11 := Aside0.mk A110
        clear A110
        replace H := Option.bind_eq_some_iff.mp H
        obtain ⟨⟨t206, t207, t208⟩, A120, H⟩ := H
        replace H : ((quote_Put.f k a0).bind fun t209 => (if t209.toList = t202.toList then (if t203.toList = t206.toList then (if t204 = t207 then (some (t205 == t208)) else (none)) else (none)) else (none))) = some r := H
        have A12 := Aside0.mk A120
        clear A120
        replace H := Option.bind_eq_some_iff.mp H
        obtain ⟨t209, A130, H⟩ := H
        replace H : (if t209.toList = t202.toList then (if t203.toList = t206.toList then (if t204 = t207 then (some (t205 == t208)) else (none)) else (none)) else (none)) = some r := H
        have A13 := Aside0.mk A130
        clear A130
        by_cases c14 : t209.toList = t202.toList
        · rw [if_pos c14] at H
          have c14b0 : (t209.toList == t202.toList) = true := beq_iff_eq.mpr c14
          have c14b1 : (t209.toList != t202.toList) = false := bne_eq_false_iff_eq.mpr c14
          clear c14
          by_cases c15 : t203.toList = t206.toList
          · rw [if_pos c15] at H
            have c15b0 : (t203.toList == t206.toList) = true := beq_iff_eq.mpr c15
            have c15b1 : (t203.toList != t206.toList) = false := bne_eq_false_iff_eq.mpr c15
            clear c15
            by_cases c16 : t204 = t207
            · rw [if_pos c16] at H
              have c16b0 : (t204 == t207) = true := beq_iff_eq.mpr c16
              have c16b1 : (t204 != t207) = false := bne_eq_false_iff_eq.mpr c16
              clear c16
              obtain rfl := Option.some.inj H
              go_enter Try.func8, Try.ntmps8
              go_wp2_with (first | ((with_reducible refine gate_callee (f := 22) rfl ?_); refine goesL_ (some 19) rfl rfl Try.func22 (by kernel_rfl) rfl #[] rfl (by (try simp only [List.map_toArray, List.map_cons, List.map_nil]); first | done | rfl | (simp only [List.length_drop, List.length_take]; rfl)) ?_; (with_reducible refine (archivistlaw01_examples.calls k  true _ A6.out).mono ?_); rintro e w17 ⟨rfl, hb⟩; refine ⟨_, rfl, ?_⟩; have n0_ := Aside0.mk (below_step (by repeat (first | (with_reducible first | exact HB.out | apply below_alloc | apply pw_below_drewN | apply below_drew1) | exact HB.out)) hb); clear HB; have HB := n0_; clear n0_; (try clear hb); (try clear hb2); (try clear hk); (try clear hi)) | ((with_reducible refine gate_callee (f := 23) rfl ?_); refine goesL_ (some 23) rfl rfl Try.func23 (by kernel_rfl) rfl #[.string a0] rfl (by (try simp only [List.map_toArray, List.map_cons, List.map_nil]); first | done | rfl | (simp only [List.length_drop, List.length_take]; rfl)) ?_; (with_reducible refine (archivistref01_Put.calls k a0 t202 _ A8.out).mono ?_); rintro e w18 ⟨rfl, hb⟩; refine ⟨_, rfl, ?_⟩; have n0_ := Aside0.mk (below_step (by repeat (first | (with_reducible first | exact HB.out | apply below_alloc | apply pw_below_drewN | apply below_drew1) | exact HB.out)) hb); clear HB; have HB := n0_; clear n0_; (try clear hb); (try clear hb2); (try clear hk); (try clear hi)) | ((with_reducible refine gate_callee (f := 25) rfl ?_); refine goesL_ (some 47) rfl rfl Try.func25 (by kernel_rfl) rfl #[.string (t202 ++ a1)] rfl (by (try simp only [List.map_toArray, List.map_cons, List.map_nil]); first | done | rfl | (simp only [List.length_drop, List.length_take]; rfl)) ?_; (with_reducible refine (quote_Get.calls k (t202 ++ a1) t203 t204 t205 _ A11.out).mono ?_); rintro e w19 ⟨rfl, hb⟩; refine ⟨_, rfl, ?_⟩; have n0_ := Aside0.mk (below_step (by repeat (first | (with_reducible first | exact HB.out | apply below_alloc | apply pw_below_drewN | apply below_drew1) | exact HB.out)) hb); clear HB; have HB := n0_; clear n0_; (try clear hb); (try clear hb2); (try clear hk); (try clear hi)) | ((with_reducible refine gate_callee (f := 26) rfl ?_); refine goesL_ (some 53) rfl rfl Try.func26 (by kernel_rfl) rfl #[.string (t202 ++ a1)] rfl (by (try simp only [List.map_toArray, List.map_cons, List.map_nil]); first | done | rfl | (simp only [List.length_drop, List.length_take]; rfl)) ?_; (with_reducible refine (archivistref01_Get.calls k (t202 ++ a1) t206 t207 t208 _ A12.out).mono ?_); rintro e w20 ⟨rfl, hb⟩; refine ⟨_, rfl, ?_⟩; have n0_ := Aside0.mk (below_step (by repeat (first | (with_reducible first | exact HB.out | apply below_alloc | apply pw_below_drewN | apply below_drew1) | exact HB.out)) hb); clear HB; have HB := n0_; clear n0_; (try clear hb); (try clear hb2); (try clear hk); (try clear hi)) | (go_at_call 21; (with_reducible refine (quote_Put.calls k a0 t209 _ A13.out).mono ?_); rintro e w21 ⟨rfl, hb⟩; have n0_ := Aside0.mk (below_step (by repeat (first | (with_reducible first | exact HB.out | apply below_alloc | apply pw_below_drewN | apply below_drew1) | exact HB.out)) hb); clear HB; have HB := n0_; clear n0_; (try clear hb); (try clear hb2); (try clear hk); (try clear hi)))
              go_ret
              exact ⟨by first | rfl | (simp [errW_none, errW_some] <;> rfl) | (simp [*, errW_none, errW_some] <;> rfl), by repeat (first | (with_reducible first | exact HB.out | apply below_alloc | apply pw_below_drewN | apply below_drew1) | exact HB.out)⟩
            · rw [if_neg c16] at H
              exact absurd H (by simp)
          · rw [if_neg c15] at H
            exact absurd H (by simp)
        · rw [if_neg c14] at H
          exact absurd H (by simp)
      · rw [if_neg c10] at H
        exact absurd H (by simp)
    · rw [if_neg c9] at H
      have c9b0 : ((Int.tmod a2 4) == 1) = false := beq_eq_false_iff_ne.mpr c9
      have c9b1 : ((Int.tmod a2 4) != 1) = true := bne_iff_ne.mpr c9
      by_cases c22 : (Int.tmod a2 4) = 2
      · rw [if_pos c22] at H
        have c22b0 : ((Int.tmod a2 4) == 2) = true := beq_iff_eq.mpr c22
        have c22b1 : ((Int.tmod a2 4) != 2) = false := bne_eq_false_iff_eq.mpr c22
        clear c22
        replace H := Option.bind_eq_some_iff.mp H
        obtain ⟨t210, A230, H⟩ := H
        replace H : ((quote_Get.f k t210).bind fun bt211 => ((archivistref01_Get.f k t210).bind fun bt214 => ((quote_Put.f k a0).bind fun t217 => (if t217.toList = t202.toList then (if bt211.1.toList = bt214.1.toList then (if bt211.2.1 = bt214.2.1 then (some (bt211.2.2 == bt214.2.2)) else (none)) else (none)) else (none))))) = some r := H
        have A23 := Aside0.mk A230
        clear A230
        replace H := Option.bind_eq_some_iff.mp H
        obtain ⟨⟨t211, t212, t213⟩, A240, H⟩ := H
        replace H : ((archivistref01_Get.f k t210).bind fun bt214 => ((quote_Put.f k a0).bind fun t217 => (if t217.toList = t202.toList then (if t211.toList = bt214.1.toList then (if t212 = bt214.2.1 then (some (t213 == bt214.2.2)) else (none)) else (none)) else (none)))) = some r := H
        have A24 := Aside0.mk A240
        clear A240
        replace H := Option.bind_eq_some_iff.mp H
        obtain ⟨⟨t214, t215, t216⟩, A250, H⟩ := H
        replace H : ((quote_Put.f k a0).bind fun t217 => (if t217.toList = t202.toList then (if t211.toList = t214.toList then (if t212 = t215 then (some (t213 == t216)) else (none)) else (none)) else (none))) = some r := H
        have A25 := Aside0.mk A250
        clear A250
        replace H := Option.bind_eq_some_iff.mp H
        obtain ⟨t217, A260, H⟩ := H
        replace H : (if t217.toList = t202.toList then (if t211.toList = t214.toList then (if t212 = t215 then (some (t213 == t216)) else (none)) else (none)) else (none)) = some r := H
        have A26 := Aside0.mk A260
        clear A260
        by_cases c27 : t217.toList = t202.toList
        · rw [if_pos c27] at H
          have c27b0 : (t217.toList == t202.toList) = true := beq_iff_eq.mpr c27
          have c27b1 : (t217.toList != t202.toList) = false := bne_eq_false_iff_eq.mpr c27
          clear c27
          by_cases c28 : t211.toList = t214.toList
          · rw [if_pos c28] at H
            have c28b0 : (t211.toList == t214.toList) = true := beq_iff_eq.mpr c28
            have c28b1 : (t211.toList != t214.toList) = false := bne_eq_false_iff_eq.mpr c28
            clear c28
            by_cases c29 : t212 = t215
            · rw [if_pos c29] at H
              have c29b0 : (t212 == t215) = true := beq_iff_eq.mpr c29
              have c29b1 : (t212 != t215) = false := bne_eq_false_iff_eq.mpr c29
              clear c29
              obtain rfl := Option.some.inj H
              go_enter Try.func8, Try.ntmps8
              go_wp2_with (first | ((with_reducible refine gate_callee (f := 22) rfl ?_); refine goesL_ (some 19) rfl rfl Try.func22 (by kernel_rfl) rfl #[] rfl (by (try simp only [List.map_toArray, List.map_cons, List.map_nil]); first | done | rfl | (simp only [List.length_drop, List.length_take]; rfl)) ?_; (with_reducible refine (archivistlaw01_examples.calls k  true _ A6.out).mono ?_); rintro e w30 ⟨rfl, hb⟩; refine ⟨_, rfl, ?_⟩; have n0_ := Aside0.mk (below_step (by repeat (first | (with_reducible first | exact HB.out | apply below_alloc | apply pw_below_drewN | apply below_drew1) | exact HB.out)) hb); clear HB; have HB := n0_; clear n0_; (try clear hb); (try clear hb2); (try clear hk); (try clear hi)) | ((with_reducible refine gate_callee (f := 23) rfl ?_); refine goesL_ (some 23) rfl rfl Try.func23 (by kernel_rfl) rfl #[.string a0] rfl (by (try simp only [List.map_toArray, List.map_cons, List.map_nil]); first | done | rfl | (simp only [List.length_drop, List.length_take]; rfl)) ?_; (with_reducible refine (archivistref01_Put.calls k a0 t202 _ A8.out).mono ?_); rintro e w31 ⟨rfl, hb⟩; refine ⟨_, rfl, ?_⟩; have n0_ := Aside0.mk (below_step (by repeat (first | (with_reducible first | exact HB.out | apply below_alloc | apply pw_below_drewN | apply below_drew1) | exact HB.out)) hb); clear HB; have HB := n0_; clear n0_; (try clear hb); (try clear hb2); (try clear hk); (try clear hi)) | ((with_reducible refine gate_callee (f := 24) rfl ?_); refine goesL_ (some 36) rfl rfl Try.func24 (by kernel_rfl) rfl #[.string t202, .int .i64 a3, .int .u8 a4] rfl (by (try simp only [List.map_toArray, List.map_cons, List.map_nil]); first | done | rfl | (simp only [List.length_drop, List.length_take]; rfl)) ?_; (with_reducible refine (archivistlaw01_bend.calls t202 a3 a4 t210 _ A23.out).mono ?_); rintro e w32 ⟨rfl, hb⟩; refine ⟨_, rfl, ?_⟩; have n0_ := Aside0.mk (below_step (by repeat (first | (with_reducible first | exact HB.out | apply below_alloc | apply pw_below_drewN | apply below_drew1) | exact HB.out)) hb); clear HB; have HB := n0_; clear n0_; (try clear hb); (try clear hb2); (try clear hk); (try clear hi)) | ((with_reducible refine gate_callee (f := 25) rfl ?_); refine goesL_ (some 47) rfl rfl Try.func25 (by kernel_rfl) rfl #[.string t210] rfl (by (try simp only [List.map_toArray, List.map_cons, List.map_nil]); first | done | rfl | (simp only [List.length_drop, List.length_take]; rfl)) ?_; (with_reducible refine (quote_Get.calls k t210 t211 t212 t213 _ A24.out).mono ?_); rintro e w33 ⟨rfl, hb⟩; refine ⟨_, rfl, ?_⟩; have n0_ := Aside0.mk (below_step (by repeat (first | (with_reducible first | exact HB.out | apply below_alloc | apply pw_below_drewN | apply below_drew1) | exact HB.out)) hb); clear HB; have HB := n0_; clear n0_; (try clear hb); (try clear hb2); (try clear hk); (try clear hi)) | ((with_reducible refine gate_callee (f := 26) rfl ?_); refine goesL_ (some 53) rfl rfl Try.func26 (by kernel_rfl) rfl #[.string t210] rfl (by (try simp only [List.map_toArray, List.map_cons, List.map_nil]); first | done | rfl | (simp only [List.length_drop, List.length_take]; rfl)) ?_; (with_reducible refine (archivistref01_Get.calls k t210 t214 t215 t216 _ A25.out).mono ?_); rintro e w34 ⟨rfl, hb⟩; refine ⟨_, rfl, ?_⟩; have n0_ := Aside0.mk (below_step (by repeat (first | (with_reducible first | exact HB.out | apply below_alloc | apply pw_below_drewN | apply below_drew1) | exact HB.out)) hb); clear HB; have HB := n0_; clear n0_; (try clear hb); (try clear hb2); (try clear hk); (try clear hi)) | (go_at_call 21; (with_reducible refine (quote_Put.calls k a0 t217 _ A26.out).mono ?_); rintro e w35 ⟨rfl, hb⟩; have n0_ := Aside0.mk (below_step (by repeat (first | (with_reducible first | exact HB.out | apply below_alloc | apply pw_below_drewN | apply below_drew1) | exact HB.out)) hb); clear HB; have HB := n0_; clear n0_; (try clear hb); (try clear hb2); (try clear hk); (try clear hi)))
              go_ret
              exact ⟨by first | rfl | (simp [errW_none, errW_some] <;> rfl) | (simp [*, errW_none, errW_some] <;> rfl), by repeat (first | (with_reducible first | exact HB.out | apply below_alloc | apply pw_below_drewN | apply below_drew1) | exact HB.out)⟩
            · rw [if_neg c29] at H
              exact absurd H (by simp)
          · rw [if_neg c28] at H
            exact absurd H (by simp)
        · rw [if_neg c27] at H
          exact absurd H (by simp)
      · rw [if_neg c22] at H
        have c22b0 : ((Int.tmod a2 4) == 2) = false := beq_eq_false_iff_ne.mpr c22
        have c22b1 : ((Int.tmod a2 4) != 2) = true := bne_iff_ne.mpr c22
        by_cases c36 : (Int.tmod a2 4) = 3
        · rw [if_pos c36] at H
          have c36b0 : ((Int.tmod a2 4) == 3) = true := beq_iff_eq.mpr c36
          have c36b1 : ((Int.tmod a2 4) != 3) = false := bne_eq_false_iff_eq.mpr c36
          clear c36
          by_cases c37 : t202.size + a1.size ≤ 9223372036854775807
          · rw [if_pos c37] at H
            have c37b0 := eq_true c37
            have c37b1 : decide (t202.size + a1.size ≤ 9223372036854775807) = true := decide_eq_true c37
            try have c37b2 : (9223372036854775807 < t202.size + a1.size) = False := eq_false (Nat.not_lt.2 c37)
            replace H := Option.bind_eq_some_iff.mp H
            obtain ⟨t218, A380, H⟩ := H
            replace H : ((quote_Get.f k t218).bind fun bt219 => ((archivistref01_Get.f k t218).bind fun bt222 => ((quote_Put.f k a0).bind fun t225 => (if t225.toList = t202.toList then (if bt219.1.toList = bt222.1.toList then (if bt219.2.1 = bt222.2.1 then (some (bt219.2.2 == bt222.2.2)) else (none)) else (none)) else (none))))) = some r := H
            have A38 := Aside0.mk A380
            clear A380
            replace H := Option.bind_eq_some_iff.mp H
            obtain ⟨⟨t219, t220, t221⟩, A390, H⟩ := H
            replace H : ((archivistref01_Get.f k t218).bind fun bt222 => ((quote_Put.f k a0).bind fun t225 => (if t225.toList = t202.toList then (if t219.toList = bt222.1.toList then (if t220 = bt222.2.1 then (some (t221 == bt222.2.2)) else (none)) else (none)) else (none)))) = some r := H
            have A39 := Aside0.mk A390
            clear A390
            replace H := Option.bind_eq_some_iff.mp H
            obtain ⟨⟨t222, t223, t224⟩, A400, H⟩ := H
            replace H : ((quote_Put.f k a0).bind fun t225 => (if t225.toList = t202.toList then (if t219.toList = t222.toList then (if t220 = t223 then (some (t221 == t224)) else (none)) else (none)) else (none))) = some r := H
            have A40 := Aside0.mk A400
            clear A400
            replace H := Option.bind_eq_some_iff.mp H
            obtain ⟨t225, A410, H⟩ := H
            replace H : (if t225.toList = t202.toList then (if t219.toList = t222.toList then (if t220 = t223 then (some (t221 == t224)) else (none)) else (none)) else (none)) = some r := H
            have A41 := Aside0.mk A410
            clear A410
            by_cases c42 : t225.toList = t202.toList
            · rw [if_pos c42] at H
              have c42b0 : (t225.toList == t202.toList) = true := beq_iff_eq.mpr c42
              have c42b1 : (t225.toList != t202.toList) = false := bne_eq_false_iff_eq.mpr c42
              clear c42
              by_cases c43 : t219.toList = t222.toList
              · rw [if_pos c43] at H
                have c43b0 : (t219.toList == t222.toList) = true := beq_iff_eq.mpr c43
                have c43b1 : (t219.toList != t222.toList) = false := bne_eq_false_iff_eq.mpr c43
                clear c43
                by_cases c44 : t220 = t223
                · rw [if_pos c44] at H
                  have c44b0 : (t220 == t223) = true := beq_iff_eq.mpr c44
                  have c44b1 : (t220 != t223) = false := bne_eq_false_iff_eq.mpr c44
                  clear c44
                  obtain rfl := Option.some.inj H
                  go_enter Try.func8, Try.ntmps8
                  go_wp2_with (first | ((with_reducible refine gate_callee (f := 22) rfl ?_); refine goesL_ (some 19) rfl rfl Try.func22 (by kernel_rfl) rfl #[] rfl (by (try simp only [List.map_toArray, List.map_cons, List.map_nil]); first | done | rfl | (simp only [List.length_drop, List.length_take]; rfl)) ?_; (with_reducible refine (archivistlaw01_examples.calls k  true _ A6.out).mono ?_); rintro e w45 ⟨rfl, hb⟩; refine ⟨_, rfl, ?_⟩; have n0_ := Aside0.mk (below_step (by repeat (first | (with_reducible first | exact HB.out | apply below_alloc | apply pw_below_drewN | apply below_drew1) | exact HB.out)) hb); clear HB; have HB := n0_; clear n0_; (try clear hb); (try clear hb2); (try clear hk); (try clear hi)) | ((with_reducible refine gate_callee (f := 23) rfl ?_); refine goesL_ (some 23) rfl rfl Try.func23 (by kernel_rfl) rfl #[.string a0] rfl (by (try simp only [List.map_toArray, List.map_cons, List.map_nil]); first | done | rfl | (simp only [List.length_drop, List.length_take]; rfl)) ?_; (with_reducible refine (archivistref01_Put.calls k a0 t202 _ A8.out).mono ?_); rintro e w46 ⟨rfl, hb⟩; refine ⟨_, rfl, ?_⟩; have n0_ := Aside0.mk (below_step (by repeat (first | (with_reducible first | exact HB.out | apply below_alloc | apply pw_below_drewN | apply below_drew1) | exact HB.out)) hb); clear HB; have HB := n0_; clear n0_; (try clear hb); (try clear hb2); (try clear hk); (try clear hi)) | ((with_reducible refine gate_callee (f := 24) rfl ?_); refine goesL_ (some 44) rfl rfl Try.func24 (by kernel_rfl) rfl #[.string (t202 ++ a1), .int .i64 a3, .int .u8 a4] rfl (by (try simp only [List.map_toArray, List.map_cons, List.map_nil]); first | done | rfl | (simp only [List.length_drop, List.length_take]; rfl)) ?_; (with_reducible refine (archivistlaw01_bend.calls (t202 ++ a1) a3 a4 t218 _ A38.out).mono ?_); rintro e w47 ⟨rfl, hb⟩; refine ⟨_, rfl, ?_⟩; have n0_ := Aside0.mk (below_step (by repeat (first | (with_reducible first | exact HB.out | apply below_alloc | apply pw_below_drewN | apply below_drew1) | exact HB.out)) hb); clear HB; have HB := n0_; clear n0_; (try clear hb); (try clear hb2); (try clear hk); (try clear hi)) | ((with_reducible refine gate_callee (f := 25) rfl ?_); refine goesL_ (some 47) rfl rfl Try.func25 (by kernel_rfl) rfl #[.string t218] rfl (by (try simp only [List.map_toArray, List.map_cons, List.map_nil]); first | done | rfl | (simp only [List.length_drop, List.length_take]; rfl)) ?_; (with_reducible refine (quote_Get.calls k t218 t219 t220 t221 _ A39.out).mono ?_); rintro e w48 ⟨rfl, hb⟩; refine ⟨_, rfl, ?_⟩; have n0_ := Aside0.mk (below_step (by repeat (first | (with_reducible first | exact HB.out | apply below_alloc | apply pw_below_drewN | apply below_drew1) | exact HB.out)) hb); clear HB; have HB := n0_; clear n0_; (try clear hb); (try clear hb2); (try clear hk); (try clear hi)) | ((with_reducible refine gate_callee (f := 26) rfl ?_); refine goesL_ (some 53) rfl rfl Try.func26 (by kernel_rfl) rfl #[.string t218] rfl (by (try simp only [List.map_toArray, List.map_cons, List.map_nil]); first | done | rfl | (simp only [List.length_drop, List.length_take]; rfl)) ?_; (with_reducible refine (archivistref01_Get.calls k t218 t222 t223 t224 _ A40.out).mono ?_); rintro e w49 ⟨rfl, hb⟩; refine ⟨_, rfl, ?_⟩; have n0_ := Aside0.mk (below_step (by repeat (first | (with_reducible first | exact HB.out | apply below_alloc | apply pw_below_drewN | apply below_drew1) | exact HB.out)) hb); clear HB; have HB := n0_; clear n0_; (try clear hb); (try clear hb2); (try clear hk); (try clear hi)) | (go_at_call 21; (with_reducible refine (quote_Put.calls k a0 t225 _ A41.out).mono ?_); rintro e w50 ⟨rfl, hb⟩; have n0_ := Aside0.mk (below_step (by repeat (first | (with_reducible first | exact HB.out | apply below_alloc | apply pw_below_drewN | apply below_drew1) | exact HB.out)) hb); clear HB; have HB := n0_; clear n0_; (try clear hb); (try clear hb2); (try clear hk); (try clear hi)))
                  go_ret
                  exact ⟨by first | rfl | (simp [errW_none, errW_some] <;> rfl) | (simp [*, errW_none, errW_some] <;> rfl), by repeat (first | (with_reducible first | exact HB.out | apply below_alloc | apply pw_below_drewN | apply below_drew1) | exact HB.out)⟩
                · rw [if_neg c44] at H
                  exact absurd H (by simp)
              · rw [if_neg c43] at H
                exact absurd H (by simp)
            · rw [if_neg c42] at H
              exact absurd H (by simp)
          · rw [if_neg c37] at H
            exact absurd H (by simp)
        · rw [if_neg c36] at H
          have c36b0 : ((Int.tmod a2 4) == 3) = false := beq_eq_false_iff_ne.mpr c36
          have c36b1 : ((Int.tmod a2 4) != 3) = true := bne_iff_ne.mpr c36
          replace H := Option.bind_eq_some_iff.mp H
          obtain ⟨⟨t226, t227, t228⟩, A510, H⟩ := H
          replace H : ((archivistref01_Get.f k a1).bind fun bt229 => ((quote_Put.f k a0).bind fun t232 => (if t232.toList = t202.toList then (if t226.toList = bt229.1.toList then (if t227 = bt229.2.1 then (some (t228 == bt229.2.2)) else (none)) else (none)) else (none)))) = some r := H
          have A51 := Aside0.mk A510
          clear A510
          replace H := Option.bind_eq_some_iff.mp H
          obtain ⟨⟨t229, t230, t231⟩, A520, H⟩ := H
          replace H : ((quote_Put.f k a0).bind fun t232 => (if t232.toList = t202.toList then (if t226.toList = t229.toList then (if t227 = t230 then (some (t228 == t231)) else (none)) else (none)) else (none))) = some r := H
          have A52 := Aside0.mk A520
          clear A520
          replace H := Option.bind_eq_some_iff.mp H
          obtain ⟨t232, A530, H⟩ := H
          replace H : (if t232.toList = t202.toList then (if t226.toList = t229.toList then (if t227 = t230 then (some (t228 == t231)) else (none)) else (none)) else (none)) = some r := H
          have A53 := Aside0.mk A530
          clear A530
          by_cases c54 : t232.toList = t202.toList
          · rw [if_pos c54] at H
            have c54b0 : (t232.toList == t202.toList) = true := beq_iff_eq.mpr c54
            have c54b1 : (t232.toList != t202.toList) = false := bne_eq_false_iff_eq.mpr c54
            clear c54
            by_cases c55 : t226.toList = t229.toList
            · rw [if_pos c55] at H
              have c55b0 : (t226.toList == t229.toList) = true := beq_iff_eq.mpr c55
              have c55b1 : (t226.toList != t229.toList) = false := bne_eq_false_iff_eq.mpr c55
              clear c55
              by_cases c56 : t227 = t230
              · rw [if_pos c56] at H
                have c56b0 : (t227 == t230) = true := beq_iff_eq.mpr c56
                have c56b1 : (t227 != t230) = false := bne_eq_false_iff_eq.mpr c56
                clear c56
                obtain rfl := Option.some.inj H
                go_enter Try.func8, Try.ntmps8
                go_wp2_with (first | ((with_reducible refine gate_callee (f := 22) rfl ?_); refine goesL_ (some 19) rfl rfl Try.func22 (by kernel_rfl) rfl #[] rfl (by (try simp only [List.map_toArray, List.map_cons, List.map_nil]); first | done | rfl | (simp only [List.length_drop, List.length_take]; rfl)) ?_; (with_reducible refine (archivistlaw01_examples.calls k  true _ A6.out).mono ?_); rintro e w57 ⟨rfl, hb⟩; refine ⟨_, rfl, ?_⟩; have n0_ := Aside0.mk (below_step (by repeat (first | (with_reducible first | exact HB.out | apply below_alloc | apply pw_below_drewN | apply below_drew1) | exact HB.out)) hb); clear HB; have HB := n0_; clear n0_; (try clear hb); (try clear hb2); (try clear hk); (try clear hi)) | ((with_reducible refine gate_callee (f := 23) rfl ?_); refine goesL_ (some 23) rfl rfl Try.func23 (by kernel_rfl) rfl #[.string a0] rfl (by (try simp only [List.map_toArray, List.map_cons, List.map_nil]); first | done | rfl | (simp only [List.length_drop, List.length_take]; rfl)) ?_; (with_reducible refine (archivistref01_Put.calls k a0 t202 _ A8.out).mono ?_); rintro e w58 ⟨rfl, hb⟩; refine ⟨_, rfl, ?_⟩; have n0_ := Aside0.mk (below_step (by repeat (first | (with_reducible first | exact HB.out | apply below_alloc | apply pw_below_drewN | apply below_drew1) | exact HB.out)) hb); clear HB; have HB := n0_; clear n0_; (try clear hb); (try clear hb2); (try clear hk); (try clear hi)) | ((with_reducible refine gate_callee (f := 25) rfl ?_); refine goesL_ (some 47) rfl rfl Try.func25 (by kernel_rfl) rfl #[.string a1] rfl (by (try simp only [List.map_toArray, List.map_cons, List.map_nil]); first | done | rfl | (simp only [List.length_drop, List.length_take]; rfl)) ?_; (with_reducible refine (quote_Get.calls k a1 t226 t227 t228 _ A51.out).mono ?_); rintro e w59 ⟨rfl, hb⟩; refine ⟨_, rfl, ?_⟩; have n0_ := Aside0.mk (below_step (by repeat (first | (with_reducible first | exact HB.out | apply below_alloc | apply pw_below_drewN | apply below_drew1) | exact HB.out)) hb); clear HB; have HB := n0_; clear n0_; (try clear hb); (try clear hb2); (try clear hk); (try clear hi)) | ((with_reducible refine gate_callee (f := 26) rfl ?_); refine goesL_ (some 53) rfl rfl Try.func26 (by kernel_rfl) rfl #[.string a1] rfl (by (try simp only [List.map_toArray, List.map_cons, List.map_nil]); first | done | rfl | (simp only [List.length_drop, List.length_take]; rfl)) ?_; (with_reducible refine (archivistref01_Get.calls k a1 t229 t230 t231 _ A52.out).mono ?_); rintro e w60 ⟨rfl, hb⟩; refine ⟨_, rfl, ?_⟩; have n0_ := Aside0.mk (below_step (by repeat (first | (with_reducible first | exact HB.out | apply below_alloc | apply pw_below_drewN | apply below_drew1) | exact HB.out)) hb); clear HB; have HB := n0_; clear n0_; (try clear hb); (try clear hb2); (try clear hk); (try clear hi)) | (go_at_call 21; (with_reducible refine (quote_Put.calls k a0 t232 _ A53.out).mono ?_); rintro e w61 ⟨rfl, hb⟩; have n0_ := Aside0.mk (below_step (by repeat (first | (with_reducible first | exact HB.out | apply below_alloc | apply pw_below_drewN | apply below_drew1) | exact HB.out)) hb); clear HB; have HB := n0_; clear n0_; (try clear hb); (try clear hb2); (try clear hk); (try clear hi)))
                go_ret
                exact ⟨by first | rfl | (simp [errW_none, errW_some] <;> rfl) | (simp [*, errW_none, errW_some] <;> rfl), by repeat (first | (with_reducible first | exact HB.out | apply below_alloc | apply pw_below_drewN | apply below_drew1) | exact HB.out)⟩
              · rw [if_neg c56] at H
                exact absurd H (by simp)
            · rw [if_neg c55] at H
              exact absurd H (by simp)
          · rw [if_neg c54] at H
            exact absurd H (by simp)
  · replace c7 := Bool.eq_false_iff.mpr c7
    subst c7
    have H1 : (none) = some r := by rw [if_neg (show ¬ (false = true) by decide)] at H; exact H
    clear H
    have H := H1
    clear H1
    exact absurd H (by simp)

/-- THE ONE PURE STATEMENT of archivistlaw01_QuotePuts: yours. -/
def archivistlaw01_QuotePuts.Pure : Prop := ∀ (a0 : ByteArray) (a1 : ByteArray) (a2 : Int) (a3 : Int) (a4 : Int), a0.size ≤ 140737488351232 → a1.size ≤ 140737488351232 → (Lit.int .u8 a2).wf = true → (Lit.int .i64 a3).wf = true → (Lit.int .u8 a4).wf = true → ∃ k, archivistlaw01_QuotePuts.f k a0 a1 a2 a3 a4 = some true
theorem archivistlaw01_QuotePuts.walk (P : archivistlaw01_QuotePuts.Pure) (a0 : ByteArray) (a1 : ByteArray) (a2 : Int) (a3 : Int) (a4 : Int) (w : World) (w0 : a0.size ≤ 140737488351232) (w1 : a1.size ≤ 140737488351232) (w2 : (Lit.int .u8 a2).wf = true) (w3 : (Lit.int .i64 a3).wf = true) (w4 : (Lit.int .u8 a4).wf = true) :
    Calls Try.prog 8 #[.string a0, .string a1, .int .u8 a2, .int .i64 a3, .int .u8 a4] w fun e w' => e = .returned (.bool true) ∧ Below w.heap.size w w' := by
  obtain ⟨k, h⟩ := P a0 a1 a2 a3 a4 w0 w1 w2 w3 w4
  refine (archivistlaw01_QuotePuts.calls k a0 a1 a2 a3 a4 true w h).mono ?_
  rintro e w' ⟨rfl, hd⟩
  exact ⟨rfl, hd⟩

/-! ### archivistref01_Cut: function 28 -/
mutual
def archivistref01_Cut.l0 : Nat → ByteArray → List ByteArray → Int → Option (ByteArray × ByteArray × ByteArray)
  | 0, _, _, _ => none
  | k + 1, x0, x1, x7 => if x7 ≤ (x0.size : Int) then (archivistref01_Cut.l1 k x0 x1 x7 0) else (some (x0, (⟨#[]⟩ : ByteArray), (⟨#[]⟩ : ByteArray)))
def archivistref01_Cut.l1 : Nat → ByteArray → List ByteArray → Int → Int → Option (ByteArray × ByteArray × ByteArray)
  | 0, _, _, _, _ => none
  | k + 1, x0, x1, x7, x8 => if x8 < (x1.length : Int) then (if 0 ≤ x8 then (if ((rdOf ByteArray.empty x1 x8).size : Int) > 0 then (if (wrap64 (x7 + ((rdOf ByteArray.empty x1 x8).size : Int))) ≤ (x0.size : Int) then (if 0 ≤ x7 then (if x7 ≤ (wrap64 (x7 + ((rdOf ByteArray.empty x1 x8).size : Int))) then (if (x0.extract (x7 : Int).toNat ((wrap64 (x7 + ((rdOf ByteArray.empty x1 x8).size : Int))) : Int).toNat).toList = (rdOf ByteArray.empty x1 x8).toList then (if x7 ≤ (x0.size : Int) then (if 0 ≤ (wrap64 (x7 + ((rdOf ByteArray.empty x1 x8).size : Int))) then (some (x0.extract 0 (x7 : Int).toNat, rdOf ByteArray.empty x1 x8, x0.extract ((wrap64 (x7 + ((rdOf ByteArray.empty x1 x8).size : Int))) : Int).toNat x0.size)) else (none)) else (none)) else (archivistref01_Cut.l1 k x0 x1 x7 (wrap64 (x8 + 1)))) else (none)) else (none)) else (archivistref01_Cut.l1 k x0 x1 x7 (wrap64 (x8 + 1)))) else (archivistref01_Cut.l1 k x0 x1 x7 (wrap64 (x8 + 1)))) else (none)) else (archivistref01_Cut.l0 k x0 x1 (wrap64 (x7 + 1)))
end
def archivistref01_Cut.f (k : Nat) (a0 : ByteArray) (l1 : List ByteArray) : Option (ByteArray × ByteArray × ByteArray) := archivistref01_Cut.l0 k a0 l1 0
theorem archivistref01_Cut.mono_l : ∀ k, (∀ y0 y1 y2, LeO (archivistref01_Cut.l0 k y0 y1 y2) (archivistref01_Cut.l0 (k + 1) y0 y1 y2)) ∧ (∀ y0 y1 y2 y3, LeO (archivistref01_Cut.l1 k y0 y1 y2 y3) (archivistref01_Cut.l1 (k + 1) y0 y1 y2 y3))
  | 0 => ⟨fun _ _ _ r h => by simp [archivistref01_Cut.l0] at h, fun _ _ _ _ r h => by simp [archivistref01_Cut.l1] at h⟩
  | k + 1 => by
    obtain ⟨ih0, ih1⟩ := archivistref01_Cut.mono_l k
    refine ⟨?_, ?_⟩
    · intro y0 y1 y2
      unfold archivistref01_Cut.l0
      repeat' first
      | (with_reducible exact ih0 _ _ _)
      | (with_reducible exact ih1 _ _ _ _)
      | (with_reducible exact LeO.refl _)
      | (with_reducible exact LeO.none _)
      | (with_reducible refine LeO.ite ?_ ?_)
      | (with_reducible refine LeO.bind ?_ (fun _ => ?_))
      | exact ih0 _ _ _
      | exact ih1 _ _ _ _
      | exact LeO.none _
      | refine LeO.ite ?_ ?_
      | refine LeO.bind ?_ (fun _ => ?_)
    · intro y0 y1 y2 y3
      unfold archivistref01_Cut.l1
      repeat' first
      | (with_reducible exact ih0 _ _ _)
      | (with_reducible exact ih1 _ _ _ _)
      | (with_reducible exact LeO.refl _)
      | (with_reducible exact LeO.none _)
      | (with_reducible refine LeO.ite ?_ ?_)
      | (with_reducible refine LeO.bind ?_ (fun _ => ?_))
      | exact ih0 _ _ _
      | exact ih1 _ _ _ _
      | exact LeO.none _
      | refine LeO.ite ?_ ?_
      | refine LeO.bind ?_ (fun _ => ?_)
theorem archivistref01_Cut.mono : ∀ a0 a1 k, LeO (archivistref01_Cut.f k a0 a1) (archivistref01_Cut.f (k + 1) a0 a1) := by
  intro a0 a1 k
  obtain ⟨ih0, ih1⟩ := archivistref01_Cut.mono_l k
  unfold archivistref01_Cut.f
  repeat' first
      | (with_reducible exact ih0 _ _ _)
      | (with_reducible exact ih1 _ _ _ _)
      | (with_reducible exact LeO.refl _)
      | (with_reducible exact LeO.none _)
      | (with_reducible refine LeO.ite ?_ ?_)
      | (with_reducible refine LeO.bind ?_ (fun _ => ?_))
      | exact ih0 _ _ _
      | exact ih1 _ _ _ _
      | exact LeO.none _
      | refine LeO.ite ?_ ?_
      | refine LeO.bind ?_ (fun _ => ?_)
set_option maxHeartbeats 8000000 in
set_option maxRecDepth 100000 in
theorem archivistref01_Cut.calls (k : Nat) (a0 : ByteArray) (A1 : Option Addr) (c1 : Nat) (l1 : List ByteArray) (r1 : ByteArray) (r2 : ByteArray) (r3 : ByteArray) (w : World) (hr1 : Kd.C Kd.string w A1 l1.length l1) (hc1 : l1.length ≤ c1) (h : archivistref01_Cut.f k a0 l1 = some (r1, r2, r3)) :
    Calls Try.prog 28 #[.string a0, .slice A1 l1.length c1] w fun e w' => e = .returned (.tuple #[.string r1, .string r2, .string r3]) ∧ Drawn0 w w' := by
  have HR1 := Aside0.mk hr1
  have HC1 := Aside0.mk hc1
  clear hr1 hc1
  have H : (archivistref01_Cut.l0 k a0 l1 0) = some (r1, r2, r3) := h
  clear h
  have H' := Aside0.mk H
  clear H
  go_enter Try.func28, Try.ntmps28
  go_wp2
  repeat (go_quiet (fail); try go_wp2)
  go_loopg [7] k (fun kq v7 w' => ∃ (x7_1 : Int), v7 = .int .i64 x7_1 ∧ Aside0 (archivistref01_Cut.l0 kq a0 l1 x7_1 = some (r1, r2, r3)) ∧ Aside0 (kq ≤ k) ∧ Drawn0 w w')
  case atStart => exact ⟨(0), (by first | rfl | (simp; done) | (simp [*]; done)), H', ⟨Nat.le_refl _⟩, by repeat (first | exact Drawn0.refl _ | apply Drawn0.step)⟩
  case round =>
    clear H'
    try clear c1
    try clear c2
    try clear p2
    obtain ⟨x7_1, rfl, HA, HK1, ⟨m1, rfl⟩⟩ := hrel
    cases gk with
    | zero => exact absurd HA.out (by simp [archivistref01_Cut.l0])
    | succ k1 =>
      have H := HA.out
      clear HA
      simp only [archivistref01_Cut.l0] at H
      by_cases c3 : x7_1 ≤ (a0.size : Int)
      · rw [if_pos c3] at H
        have c3b0 : decide (x7_1 ≤ (a0.size : Int)) = true := decide_eq_true c3
        clear c3
        have H' := Aside0.mk H
        clear H
        go_wp2
        repeat (go_quiet (fail); try go_wp2)
        go_loopg [8] k1 (fun kq v8 w' => ∃ (x8_2 : Int), v8 = .int .i64 x8_2 ∧ Aside0 (archivistref01_Cut.l1 kq a0 l1 x7_1 x8_2 = some (r1, r2, r3)) ∧ Aside0 (kq ≤ k1) ∧ Drawn0 w w')
        case atStart => exact ⟨(0), (by first | rfl | (simp; done) | (simp [*]; done)), H', ⟨Nat.le_refl _⟩, by repeat (first | exact Drawn0.refl _ | apply Drawn0.step)⟩
        case round =>
          clear H'
          try clear c1
          try clear c2
          try clear p2
          try clear c3
          try clear c3b0
          try clear p2
          obtain ⟨x8_2, rfl, HA, HK2, ⟨m2, rfl⟩⟩ := hrel
          cases gk with
          | zero => exact absurd HA.out (by simp [archivistref01_Cut.l1])
          | succ k2 =>
            have H := HA.out
            clear HA
            simp only [archivistref01_Cut.l1] at H
            by_cases c4 : x8_2 < (l1.length : Int)
            · rw [if_pos c4] at H
              have c4b0 : decide (x8_2 < (l1.length : Int)) = true := decide_eq_true c4
              clear c4
              by_cases c5 : 0 ≤ x8_2
              · rw [if_pos c5] at H
                have c5b0 : decide (0 ≤ x8_2) = true := decide_eq_true c5
                clear c5
                by_cases c6 : ((rdOf ByteArray.empty l1 x8_2).size : Int) > 0
                · rw [if_pos c6] at H
                  have c6b0 : decide (0 < ((rdOf ByteArray.empty l1 x8_2).size : Int)) = true := decide_eq_true c6
                  have c6b1 : decide (0 < (rdOf ByteArray.empty l1 x8_2).size) = true := decide_eq_true (by omega)
                  clear c6
                  by_cases c7 : (wrap64 (x7_1 + ((rdOf ByteArray.empty l1 x8_2).size : Int))) ≤ (a0.size : Int)
                  · rw [if_pos c7] at H
                    have c7b0 : decide ((wrap64 (x7_1 + ((rdOf ByteArray.empty l1 x8_2).size : Int))) ≤ (a0.size : Int)) = true := decide_eq_true c7
                    clear c7
                    by_cases c8 : 0 ≤ x7_1
                    · rw [if_pos c8] at H
                      have c8b0 := eq_true c8
                      have c8b1 : decide (0 ≤ x7_1) = true := decide_eq_true c8
                      clear c8
                      by_cases c9 : x7_1 ≤ (wrap64 (x7_1 + ((rdOf ByteArray.empty l1 x8_2).size : Int)))
                      · rw [if_pos c9] at H
                        have c9b0 := eq_true c9
                        have c9b1 : decide (x7_1 ≤ (wrap64 (x7_1 + ((rdOf ByteArray.empty l1 x8_2).size : Int)))) = true := decide_eq_true c9
                        have c10b0 := eq_true (of_decide_eq_true (by first | (with_reducible assumption) | assumption) : (wrap64 (x7_1 + ((rdOf ByteArray.empty l1 x8_2).size : Int))) ≤ (a0.size : Int))
                        by_cases c11 : (a0.extract (x7_1 : Int).toNat ((wrap64 (x7_1 + ((rdOf ByteArray.empty l1 x8_2).size : Int))) : Int).toNat).toList = (rdOf ByteArray.empty l1 x8_2).toList
                        · rw [if_pos c11] at H
                          have c11b0 : ((a0.extract (x7_1 : Int).toNat ((wrap64 (x7_1 + ((rdOf ByteArray.empty l1 x8_2).size : Int))) : Int).toNat).toList == (rdOf ByteArray.empty l1 x8_2).toList) = true := beq_iff_eq.mpr c11
                          have c11b1 : ((a0.extract (x7_1 : Int).toNat ((wrap64 (x7_1 + ((rdOf ByteArray.empty l1 x8_2).size : Int))) : Int).toNat).toList != (rdOf ByteArray.empty l1 x8_2).toList) = false := bne_eq_false_iff_eq.mpr c11
                          clear c11
                          have c12b0 := eq_true (of_decide_eq_true (by first | (with_reducible assumption) | assumption) : 0 ≤ x7_1)
                          by_cases c13 : x7_1 ≤ (a0.size : Int)
                          · rw [if_pos c13] at H
                            have c13b0 := eq_true c13
                            have c13b1 : decide (x7_1 ≤ (a0.size : Int)) = true := decide_eq_true c13
                            clear c13
                            obtain ⟨ji14, hji14⟩ : ∃ j_ : Int, (wrap64 (x7_1 + ((rdOf ByteArray.empty l1 x8_2).size : Int))) = j_ := ⟨_, rfl⟩
                            replace H : (if 0 ≤ (ji14) then (some (a0.extract 0 (x7_1 : Int).toNat, rdOf ByteArray.empty l1 x8_2, a0.extract ((ji14) : Int).toNat a0.size)) else (none)) = some (r1, r2, r3) := by first | (rw [hji14] at H; exact H) | (simp only [hji14] at H ⊢; exact H)
                            (try rw [hji14] at c7b0)
                            (try rw [hji14] at c9b0)
                            (try rw [hji14] at c9b1)
                            (try rw [hji14] at c9)
                            (try rw [hji14] at c11b0)
                            (try rw [hji14] at c11b1)
                            have hji14w : (IntKind.i64.wrap (x7_1 + ((rdOf ByteArray.empty l1 x8_2).size : Int))) = ji14 := (i64_w _).trans hji14
                            by_cases c15 : 0 ≤ (ji14)
                            · rw [if_pos c15] at H
                              have c15b0 := eq_true c15
                              have c15b1 : decide (0 ≤ (ji14)) = true := decide_eq_true c15
                              clear c15
                              have c16b0 := eq_true (of_decide_eq_true (by first | (with_reducible assumption) | assumption) : (ji14) ≤ (a0.size : Int))
                              simp only [Option.some.injEq, Prod.mk.injEq] at H
                              obtain ⟨rfl, rfl, rfl⟩ := H
                              have p233 : 0 ≤ (x8_2 : Int) := of_decide_eq_true (by first | (with_reducible assumption) | assumption)
                              have q233 : x8_2 < (l1.length : Int) := of_decide_eq_true (by first | (with_reducible assumption) | assumption)
                              obtain ⟨ad233, e233, hx233_0⟩ := Kd.at_string HR1.out x8_2 p233 q233
                              cases e233
                              replace p233 := eq_true p233
                              replace q233 := eq_true q233
                              have p234 : 0 ≤ (x8_2 : Int) := of_decide_eq_true (by first | (with_reducible assumption) | assumption)
                              have q234 : x8_2 < (l1.length : Int) := of_decide_eq_true (by first | (with_reducible assumption) | assumption)
                              obtain ⟨ad234, e234, hx234_0⟩ := Kd.at_string HR1.out x8_2 p234 q234
                              obtain rfl : ad233 = ad234 := (by injection e234)
                              replace p234 := eq_true p234
                              replace q234 := eq_true q234
                              have p235 : 0 ≤ (x8_2 : Int) := of_decide_eq_true (by first | (with_reducible assumption) | assumption)
                              have q235 : x8_2 < (l1.length : Int) := of_decide_eq_true (by first | (with_reducible assumption) | assumption)
                              obtain ⟨ad235, e235, hx235_0⟩ := Kd.at_string HR1.out x8_2 p235 q235
                              obtain rfl : ad233 = ad235 := (by injection e235)
                              replace p235 := eq_true p235
                              replace q235 := eq_true q235
                              go_wp2
                              repeat (go_quiet (fail); try go_wp2)
                              go_ret3
                              exact ⟨by first | rfl | (simp; done) | (simp only [← hji14] <;> (first | rfl | simp)) | (simp [*]; done), by repeat (first | exact Drawn0.refl _ | apply Drawn0.step)⟩
                            · rw [if_neg c15] at H
                              exact absurd H (by simp)
                          · rw [if_neg c13] at H
                            exact absurd H (by simp)
                        · rw [if_neg c11] at H
                          have c11b0 : ((a0.extract (x7_1 : Int).toNat ((wrap64 (x7_1 + ((rdOf ByteArray.empty l1 x8_2).size : Int))) : Int).toNat).toList == (rdOf ByteArray.empty l1 x8_2).toList) = false := beq_eq_false_iff_ne.mpr c11
                          have c11b1 : ((a0.extract (x7_1 : Int).toNat ((wrap64 (x7_1 + ((rdOf ByteArray.empty l1 x8_2).size : Int))) : Int).toNat).toList != (rdOf ByteArray.empty l1 x8_2).toList) = true := bne_iff_ne.mpr c11
                          have H' := Aside0.mk H
                          clear H
                          have p233 : 0 ≤ (x8_2 : Int) := of_decide_eq_true (by first | (with_reducible assumption) | assumption)
                          have q233 : x8_2 < (l1.length : Int) := of_decide_eq_true (by first | (with_reducible assumption) | assumption)
                          obtain ⟨ad233, e233, hx233_0⟩ := Kd.at_string HR1.out x8_2 p233 q233
                          cases e233
                          replace p233 := eq_true p233
                          replace q233 := eq_true q233
                          have p234 : 0 ≤ (x8_2 : Int) := of_decide_eq_true (by first | (with_reducible assumption) | assumption)
                          have q234 : x8_2 < (l1.length : Int) := of_decide_eq_true (by first | (with_reducible assumption) | assumption)
                          obtain ⟨ad234, e234, hx234_0⟩ := Kd.at_string HR1.out x8_2 p234 q234
                          obtain rfl : ad233 = ad234 := (by injection e234)
                          replace p234 := eq_true p234
                          replace q234 := eq_true q234
                          go_wp2
                          repeat (go_quiet (fail); try go_wp2)
                          go_roundg k2
                          case measure => have := HK1.out; have := HK2.out; omega
                          case rel => exact ⟨(wrap64 (x8_2 + 1)), (by first | rfl | (simp; done) | (simp [*]; done)), H', ⟨by have := HK1.out; have := HK2.out; omega⟩, by repeat (first | exact Drawn0.refl _ | apply Drawn0.step)⟩
                      · rw [if_neg c9] at H
                        exact absurd H (by simp)
                    · rw [if_neg c8] at H
                      exact absurd H (by simp)
                  · rw [if_neg c7] at H
                    have c7b0 : decide ((wrap64 (x7_1 + ((rdOf ByteArray.empty l1 x8_2).size : Int))) ≤ (a0.size : Int)) = false := decide_eq_false c7
                    clear c7
                    have H' := Aside0.mk H
                    clear H
                    have p233 : 0 ≤ (x8_2 : Int) := of_decide_eq_true (by first | (with_reducible assumption) | assumption)
                    have q233 : x8_2 < (l1.length : Int) := of_decide_eq_true (by first | (with_reducible assumption) | assumption)
                    obtain ⟨ad233, e233, hx233_0⟩ := Kd.at_string HR1.out x8_2 p233 q233
                    cases e233
                    replace p233 := eq_true p233
                    replace q233 := eq_true q233
                    go_wp2
                    repeat (go_quiet (fail); try go_wp2)
                    go_roundg k2
                    case measure => have := HK1.out; have := HK2.out; omega
                    case rel => exact ⟨(wrap64 (x8_2 + 1)), (by first | rfl | (simp; done) | (simp [*]; done)), H', ⟨by have := HK1.out; have := HK2.out; omega⟩, by repeat (first | exact Drawn0.refl _ | apply Drawn0.step)⟩
                · rw [if_neg c6] at H
                  have c6b0 : decide (0 < ((rdOf ByteArray.empty l1 x8_2).size : Int)) = false := decide_eq_false c6
                  have c6b1 : decide (0 < (rdOf ByteArray.empty l1 x8_2).size) = false := decide_eq_false (by omega)
                  clear c6
                  have H' := Aside0.mk H
                  clear H
                  have p233 : 0 ≤ (x8_2 : Int) := of_decide_eq_true (by first | (with_reducible assumption) | assumption)
                  have q233 : x8_2 < (l1.length : Int) := of_decide_eq_true (by first | (with_reducible assumption) | assumption)
                  obtain ⟨ad233, e233, hx233_0⟩ := Kd.at_string HR1.out x8_2 p233 q233
                  cases e233
                  replace p233 := eq_true p233
                  replace q233 := eq_true q233
                  go_wp2
                  repeat (go_quiet (fail); try go_wp2)
                  go_roundg k2
                  case measure => have := HK1.out; have := HK2.out; omega
                  case rel => exact ⟨(wrap64 (x8_2 + 1)), (by first | rfl | (simp; done) | (simp [*]; done)), H', ⟨by have := HK1.out; have := HK2.out; omega⟩, by repeat (first | exact Drawn0.refl _ | apply Drawn0.step)⟩
              · rw [if_neg c5] at H
                exact absurd H (by simp)
            · rw [if_neg c4] at H
              have c4b0 : decide (x8_2 < (l1.length : Int)) = false := decide_eq_false c4
              clear c4
              have H' := Aside0.mk H
              clear H
              go_wp2
              repeat (go_quiet (fail); try go_wp2)
              go_roundg k2
              case measure => have := HK1.out; have := HK2.out; omega
              case rel => exact ⟨(wrap64 (x7_1 + 1)), (by first | rfl | (simp; done) | (simp [*]; done)), H', ⟨by have := HK1.out; have := HK2.out; omega⟩, by repeat (first | exact Drawn0.refl _ | apply Drawn0.step)⟩
      · rw [if_neg c3] at H
        have c3b0 : decide (x7_1 ≤ (a0.size : Int)) = false := decide_eq_false c3
        clear c3
        simp only [Option.some.injEq, Prod.mk.injEq] at H
        obtain ⟨rfl, rfl, rfl⟩ := H
        go_wp2
        repeat (go_quiet (fail); try go_wp2)
        go_ret3
        exact ⟨by first | rfl | (simp; done) | (simp [*]; done), by repeat (first | exact Drawn0.refl _ | apply Drawn0.step)⟩

/-! ### archivistref01_Join: function 30 -/
def archivistref01_Join.l0 : Nat → ByteArray → List ByteArray → ByteArray → Int → Option (ByteArray)
  | 0, _, _, _, _ => none
  | k + 1, x0, x1, x5, x6 => if x6 < (x1.length : Int) then (if x6 > 0 then (if x5.size + x0.size ≤ 9223372036854775807 then (if 0 ≤ x6 then (if (x5 ++ x0).size + (rdOf ByteArray.empty x1 x6).size ≤ 9223372036854775807 then (archivistref01_Join.l0 k x0 x1 ((x5 ++ x0) ++ (rdOf ByteArray.empty x1 x6)) (wrap64 (x6 + 1))) else (none)) else (none)) else (none)) else (if 0 ≤ x6 then (if x5.size + (rdOf ByteArray.empty x1 x6).size ≤ 9223372036854775807 then (archivistref01_Join.l0 k x0 x1 (x5 ++ (rdOf ByteArray.empty x1 x6)) (wrap64 (x6 + 1))) else (none)) else (none))) else (some x5)
def archivistref01_Join.f (k : Nat) (a0 : ByteArray) (l1 : List ByteArray) : Option (ByteArray) := archivistref01_Join.l0 k a0 l1 (⟨#[]⟩ : ByteArray) 0
theorem archivistref01_Join.mono_l : ∀ k, (∀ y0 y1 y2 y3, LeO (archivistref01_Join.l0 k y0 y1 y2 y3) (archivistref01_Join.l0 (k + 1) y0 y1 y2 y3))
  | 0 => fun _ _ _ _ r h => by simp [archivistref01_Join.l0] at h
  | k + 1 => by
    have ih0 := archivistref01_Join.mono_l k
    · intro y0 y1 y2 y3
      unfold archivistref01_Join.l0
      repeat' first
      | (with_reducible exact ih0 _ _ _ _)
      | (with_reducible exact LeO.refl _)
      | (with_reducible exact LeO.none _)
      | (with_reducible refine LeO.ite ?_ ?_)
      | (with_reducible refine LeO.bind ?_ (fun _ => ?_))
      | exact ih0 _ _ _ _
      | exact LeO.none _
      | refine LeO.ite ?_ ?_
      | refine LeO.bind ?_ (fun _ => ?_)
theorem archivistref01_Join.mono : ∀ a0 a1 k, LeO (archivistref01_Join.f k a0 a1) (archivistref01_Join.f (k + 1) a0 a1) := by
  intro a0 a1 k
  have ih0 := archivistref01_Join.mono_l k
  unfold archivistref01_Join.f
  repeat' first
      | (with_reducible exact ih0 _ _ _ _)
      | (with_reducible exact LeO.refl _)
      | (with_reducible exact LeO.none _)
      | (with_reducible refine LeO.ite ?_ ?_)
      | (with_reducible refine LeO.bind ?_ (fun _ => ?_))
      | exact ih0 _ _ _ _
      | exact LeO.none _
      | refine LeO.ite ?_ ?_
      | refine LeO.bind ?_ (fun _ => ?_)
set_option maxHeartbeats 8000000 in
set_option maxRecDepth 100000 in
theorem archivistref01_Join.calls (k : Nat) (a0 : ByteArray) (A1 : Option Addr) (c1 : Nat) (l1 : List ByteArray) (r : ByteArray) (w : World) (hr1 : Kd.C Kd.string w A1 l1.length l1) (hc1 : l1.length ≤ c1) (h : archivistref01_Join.f k a0 l1 = some r) :
    Calls Try.prog 30 #[.string a0, .slice A1 l1.length c1] w fun e w' => e = .returned (.string r) ∧ Drawn0 w w' := by
  have HR1 := Aside0.mk hr1
  have HC1 := Aside0.mk hc1
  clear hr1 hc1
  have H : (archivistref01_Join.l0 k a0 l1 (⟨#[]⟩ : ByteArray) 0) = some r := h
  clear h
  have H' := Aside0.mk H
  clear H
  go_enter Try.func30, Try.ntmps30
  go_wp2
  go_loopg [5, 6] k (fun kq v5 v6 w' => ∃ (x5_1 : ByteArray) (x6_1 : Int), v5 = .string x5_1 ∧ v6 = .int .i64 x6_1 ∧ Aside0 (archivistref01_Join.l0 kq a0 l1 x5_1 x6_1 = some r) ∧ Aside0 (kq ≤ k) ∧ Drawn0 w w')
  case atStart => exact ⟨((⟨#[]⟩ : ByteArray)), (0), (by first | rfl | (simp; done) | (simp [*]; done)), (by first | rfl | (simp; done) | (simp [*]; done)), H', ⟨Nat.le_refl _⟩, by repeat (first | exact Drawn0.refl _ | apply Drawn0.step)⟩
  case round =>
    clear H'
    try clear c1
    try clear p2
    obtain ⟨x5_1, x6_1, rfl, rfl, HA, HK1, ⟨m1, rfl⟩⟩ := hrel
    cases gk with
    | zero => exact absurd HA.out (by simp [archivistref01_Join.l0])
    | succ k1 =>
      have H := HA.out
      clear HA
      simp only [archivistref01_Join.l0] at H
      by_cases c3 : x6_1 < (l1.length : Int)
      · rw [if_pos c3] at H
        have c3b0 : decide (x6_1 < (l1.length : Int)) = true := decide_eq_true c3
        clear c3
        by_cases c4 : x6_1 > 0
        · rw [if_pos c4] at H
          have c4b0 : decide (0 < x6_1) = true := decide_eq_true c4
          clear c4
          by_cases c5 : x5_1.size + a0.size ≤ 9223372036854775807
          · rw [if_pos c5] at H
            have c5b0 := eq_true c5
            have c5b1 : decide (x5_1.size + a0.size ≤ 9223372036854775807) = true := decide_eq_true c5
            try have c5b2 : (9223372036854775807 < x5_1.size + a0.size) = False := eq_false (Nat.not_lt.2 c5)
            by_cases c6 : 0 ≤ x6_1
            · rw [if_pos c6] at H
              have c6b0 : decide (0 ≤ x6_1) = true := decide_eq_true c6
              clear c6
              by_cases c7 : (x5_1 ++ a0).size + (rdOf ByteArray.empty l1 x6_1).size ≤ 9223372036854775807
              · rw [if_pos c7] at H
                have c7b0 := eq_true c7
                have c7b1 : decide ((x5_1 ++ a0).size + (rdOf ByteArray.empty l1 x6_1).size ≤ 9223372036854775807) = true := decide_eq_true c7
                try have c7b2 : (9223372036854775807 < (x5_1 ++ a0).size + (rdOf ByteArray.empty l1 x6_1).size) = False := eq_false (Nat.not_lt.2 c7)
                try (have c7b3 : (9223372036854775807 < (x5_1 ++ a0).size + (rdOf ByteArray.empty l1 x6_1).size) = False := eq_false (Nat.not_lt.2 c7); simp only [ByteArray.size_append, Nat.add_zero, Nat.zero_add] at c7b3)
                have H' := Aside0.mk H
                clear H
                have p236 : 0 ≤ (x6_1 : Int) := of_decide_eq_true (by first | (with_reducible assumption) | assumption)
                have q236 : x6_1 < (l1.length : Int) := of_decide_eq_true (by first | (with_reducible assumption) | assumption)
                obtain ⟨ad236, e236, hx236_0⟩ := Kd.at_string HR1.out x6_1 p236 q236
                cases e236
                replace p236 := eq_true p236
                replace q236 := eq_true q236
                go_wp2
                go_roundg k1
                case measure => have := HK1.out; omega
                case rel => exact ⟨((x5_1 ++ a0) ++ (rdOf ByteArray.empty l1 x6_1)), (wrap64 (x6_1 + 1)), (by first | rfl | (simp; done) | (simp [*]; done)), (by first | rfl | (simp; done) | (simp [*]; done)), H', ⟨by have := HK1.out; omega⟩, by repeat (first | exact Drawn0.refl _ | apply Drawn0.step)⟩
              · rw [if_neg c7] at H
                exact absurd H (by simp)
            · rw [if_neg c6] at H
              exact absurd H (by simp)
          · rw [if_neg c5] at H
            exact absurd H (by simp)
        · rw [if_neg c4] at H
          have c4b0 : decide (0 < x6_1) = false := decide_eq_false c4
          clear c4
          by_cases c8 : 0 ≤ x6_1
          · rw [if_pos c8] at H
            have c8b0 : decide (0 ≤ x6_1) = true := decide_eq_true c8
            clear c8
            by_cases c9 : x5_1.size + (rdOf ByteArray.empty l1 x6_1).size ≤ 9223372036854775807
            · rw [if_pos c9] at H
              have c9b0 := eq_true c9
              have c9b1 : decide (x5_1.size + (rdOf ByteArray.empty l1 x6_1).size ≤ 9223372036854775807) = true := decide_eq_true c9
              try have c9b2 : (9223372036854775807 < x5_1.size + (rdOf ByteArray.empty l1 x6_1).size) = False := eq_false (Nat.not_lt.2 c9)
              have H' := Aside0.mk H
              clear H
              have p237 : 0 ≤ (x6_1 : Int) := of_decide_eq_true (by first | (with_reducible assumption) | assumption)
              have q237 : x6_1 < (l1.length : Int) := of_decide_eq_true (by first | (with_reducible assumption) | assumption)
              obtain ⟨ad237, e237, hx237_0⟩ := Kd.at_string HR1.out x6_1 p237 q237
              cases e237
              replace p237 := eq_true p237
              replace q237 := eq_true q237
              go_wp2
              go_roundg k1
              case measure => have := HK1.out; omega
              case rel => exact ⟨(x5_1 ++ (rdOf ByteArray.empty l1 x6_1)), (wrap64 (x6_1 + 1)), (by first | rfl | (simp; done) | (simp [*]; done)), (by first | rfl | (simp; done) | (simp [*]; done)), H', ⟨by have := HK1.out; omega⟩, by repeat (first | exact Drawn0.refl _ | apply Drawn0.step)⟩
            · rw [if_neg c9] at H
              exact absurd H (by simp)
          · rw [if_neg c8] at H
            exact absurd H (by simp)
      · rw [if_neg c3] at H
        have c3b0 : decide (x6_1 < (l1.length : Int)) = false := decide_eq_false c3
        clear c3
        obtain rfl := Option.some.inj H
        go_wp2
        go_ret
        exact ⟨by first | rfl | (simp; done) | (simp [*]; done), by repeat (first | exact Drawn0.refl _ | apply Drawn0.step)⟩

end Go.Proofs.Ytifcnblgpnfehaa.X
