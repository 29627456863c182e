-- Laid by xprint.py, a program of this session's, out of the translation.
import Derived.Test.YtpijoadbaocnpaaDoorX0
import Derived.Test.YtpijoadbaocnpaaDoorX1
import Derived.Test.YtpijoadbaocnpaaDoorX4
import Derived.Test.YtpijoadbaocnpaaDoorX5
import Derived.Test.YtpijoadbaocnpaaDoorX12
namespace Go.Proofs.YtpijoadbaocnpaaDoor.X
open Go.RowKit Go.Proofs.YtpijoadbaocnpaaDoorW.PrintWords Go.Proofs.YtpijoadbaocnpaaDoorW.PrintLast Go.Proofs.YtpijoadbaocnpaaDoorW.PrintMore
attribute [local go_sem] max2_int min2_int max_two min_two max_three min_three max_four min_four x_isSome x_str_gtr x_str_leq x_str_geq   -- for this text's walks alone
set_option linter.unusedVariables false
set_option linter.unusedSimpArgs false

/-! ### archivistlaw03_UnitSpans: function 8 -/
mutual
def archivistlaw03_UnitSpans.j0 : Nat → Int → Int → Int → Bool → ByteArray → Bool → ByteArray → Option (Bool)
  | 0, _, _, _, _, _, _, _ => none
  | k + 1, x1, x2, x3, x9, x11, x12, x13 => if (Int.tmod x1 60) > 0 then ((archivistlaw03_digits.f (Int.tmod x1 60)).bind fun t334 => (if x13.size + t334.size ≤ 9223372036854775807 then (if (x13 ++ t334).size + 1 ≤ 9223372036854775807 then (archivistlaw03_UnitSpans.j1 k x2 x3 x9 x11 x12 ((x13 ++ t334) ++ (⟨#[109]⟩ : ByteArray))) else (none)) else (none))) else (archivistlaw03_UnitSpans.j1 k x2 x3 x9 x11 x12 x13)
def archivistlaw03_UnitSpans.j1 : Nat → Int → Int → Bool → ByteArray → Bool → ByteArray → Option (Bool)
  | 0, _, _, _, _, _, _ => none
  | k + 1, x2, x3, x9, x11, x12, x13 => if (Int.tmod x2 60) > 0 then ((archivistlaw03_digits.f (Int.tmod x2 60)).bind fun t335 => (if x13.size + t335.size ≤ 9223372036854775807 then (if (x13 ++ t335).size + 1 ≤ 9223372036854775807 then (archivistlaw03_UnitSpans.j2 k x3 x9 x11 x12 ((x13 ++ t335) ++ (⟨#[115]⟩ : ByteArray))) else (none)) else (none))) else (archivistlaw03_UnitSpans.j2 k x3 x9 x11 x12 x13)
def archivistlaw03_UnitSpans.j2 : Nat → Int → Bool → ByteArray → Bool → ByteArray → Option (Bool)
  | 0, _, _, _, _, _ => none
  | k + 1, x3, x9, x11, x12, x13 => if (Int.tmod x3 1000) > 0 then ((archivistlaw03_long.f k ((Int.tmod x3 1000) % 4294967296)).bind fun t336 => (if x13.size + t336.size ≤ 9223372036854775807 then (if (x13 ++ t336).size + 2 ≤ 9223372036854775807 then (if ((x13 ++ t336) ++ (⟨#[109, 115]⟩ : ByteArray)).toList = ([] : List UInt8) then (if x9 = true then (if x12 = true then (some (x11.toList == ([48, 115] : List UInt8))) else (none)) else (none)) else (if x9 = true then (if x12 = true then (some (x11.toList == ((x13 ++ t336) ++ (⟨#[109, 115]⟩ : ByteArray)).toList)) else (none)) else (none))) else (none)) else (none))) else (if x13.toList = ([] : List UInt8) then (if x9 = true then (if x12 = true then (some (x11.toList == ([48, 115] : List UInt8))) else (none)) else (none)) else (if x9 = true then (if x12 = true then (some (x11.toList == x13.toList)) else (none)) else (none)))
end
def archivistlaw03_UnitSpans.f (k : Nat) (a0 : Int) (a1 : Int) (a2 : Int) (a3 : Int) : Option (Bool) := (archivistlaw03_examples.f k).bind fun t330 => (if t330 = true then ((unit_Span.f k (wrap64 ((wrap64 ((wrap64 ((wrap64 ((wrap64 ((wrap64 ((wrap64 ((wrap64 (a0)) * 60)) + (wrap64 (Int.tmod a1 60)))) * 60)) + (wrap64 (Int.tmod a2 60)))) * 1000)) + (wrap64 (Int.tmod a3 1000)))) * 1000000))).bind fun bt331 => (if a0 > 0 then ((archivistlaw03_long.f k ((a0) % 4294967296)).bind fun t333 => (if 0 + t333.size ≤ 9223372036854775807 then (if ((⟨#[]⟩ : ByteArray) ++ t333).size + 1 ≤ 9223372036854775807 then (archivistlaw03_UnitSpans.j0 k a1 a2 a3 t330 bt331.1 bt331.2 (((⟨#[]⟩ : ByteArray) ++ t333) ++ (⟨#[104]⟩ : ByteArray))) else (none)) else (none))) else (archivistlaw03_UnitSpans.j0 k a1 a2 a3 t330 bt331.1 bt331.2 (⟨#[]⟩ : ByteArray)))) else (none))
theorem archivistlaw03_UnitSpans.mono_l : ∀ k, (∀ y0 y1 y2 y3 y4 y5 y6, LeO (archivistlaw03_UnitSpans.j0 k y0 y1 y2 y3 y4 y5 y6) (archivistlaw03_UnitSpans.j0 (k + 1) y0 y1 y2 y3 y4 y5 y6)) ∧ (∀ y0 y1 y2 y3 y4 y5, LeO (archivistlaw03_UnitSpans.j1 k y0 y1 y2 y3 y4 y5) (archivistlaw03_UnitSpans.j1 (k + 1) y0 y1 y2 y3 y4 y5)) ∧ (∀ y0 y1 y2 y3 y4, LeO (archivistlaw03_UnitSpans.j2 k y0 y1 y2 y3 y4) (archivistlaw03_UnitSpans.j2 (k + 1) y0 y1 y2 y3 y4))
  | 0 => ⟨fun _ _ _ _ _ _ _ r h => by simp [archivistlaw03_UnitSpans.j0] at h, fun _ _ _ _ _ _ r h => by simp [archivistlaw03_UnitSpans.j1] at h, fun _ _ _ _ _ r h => by simp [archivistlaw03_UnitSpans.j2] at h⟩
  | k + 1 => by
    obtain ⟨ih0, ih1, ih2⟩ := archivistlaw03_UnitSpans.mono_l k
    refine ⟨?_, ?_, ?_⟩
    · intro y0 y1 y2 y3 y4 y5 y6
      unfold archivistlaw03_UnitSpans.j0
      repeat' first
      | (with_reducible exact ih0 _ _ _ _ _ _ _)
      | (with_reducible exact ih1 _ _ _ _ _ _)
      | (with_reducible exact ih2 _ _ _ _ _)
      | (with_reducible exact archivistlaw03_examples.mono _)
      | (with_reducible exact archivistlaw03_long.mono _ _)
      | (with_reducible exact unit_Span.mono _ _)
      | (with_reducible exact LeO.refl _)
      | (with_reducible exact LeO.none _)
      | (with_reducible refine LeO.ite ?_ ?_)
      | (with_reducible refine LeO.bind ?_ (fun _ => ?_))
      | exact ih0 _ _ _ _ _ _ _
      | exact ih1 _ _ _ _ _ _
      | exact ih2 _ _ _ _ _
      | exact archivistlaw03_examples.mono _
      | exact archivistlaw03_long.mono _ _
      | exact unit_Span.mono _ _
      | exact LeO.none _
      | refine LeO.ite ?_ ?_
      | refine LeO.bind ?_ (fun _ => ?_)
    · intro y0 y1 y2 y3 y4 y5
      unfold archivistlaw03_UnitSpans.j1
      repeat' first
      | (with_reducible exact ih0 _ _ _ _ _ _ _)
      | (with_reducible exact ih1 _ _ _ _ _ _)
      | (with_reducible exact ih2 _ _ _ _ _)
      | (with_reducible exact archivistlaw03_examples.mono _)
      | (with_reducible exact archivistlaw03_long.mono _ _)
      | (with_reducible exact unit_Span.mono _ _)
      | (with_reducible exact LeO.refl _)
      | (with_reducible exact LeO.none _)
      | (with_reducible refine LeO.ite ?_ ?_)
      | (with_reducible refine LeO.bind ?_ (fun _ => ?_))
      | exact ih0 _ _ _ _ _ _ _
      | exact ih1 _ _ _ _ _ _
      | exact ih2 _ _ _ _ _
      | exact archivistlaw03_examples.mono _
      | exact archivistlaw03_long.mono _ _
      | exact unit_Span.mono _ _
      | exact LeO.none _
      | refine LeO.ite ?_ ?_
      | refine LeO.bind ?_ (fun _ => ?_)
    · intro y0 y1 y2 y3 y4
      unfold archivistlaw03_UnitSpans.j2
      repeat' first
      | (with_reducible exact ih0 _ _ _ _ _ _ _)
      | (with_reducible exact ih1 _ _ _ _ _ _)
      | (with_reducible exact ih2 _ _ _ _ _)
      | (with_reducible exact archivistlaw03_examples.mono _)
      | (with_reducible exact archivistlaw03_long.mono _ _)
      | (with_reducible exact unit_Span.mono _ _)
      | (with_reducible exact LeO.refl _)
      | (with_reducible exact LeO.none _)
      | (with_reducible refine LeO.ite ?_ ?_)
      | (with_reducible refine LeO.bind ?_ (fun _ => ?_))
      | exact ih0 _ _ _ _ _ _ _
      | exact ih1 _ _ _ _ _ _
      | exact ih2 _ _ _ _ _
      | exact archivistlaw03_examples.mono _
      | exact archivistlaw03_long.mono _ _
      | exact unit_Span.mono _ _
      | exact LeO.none _
      | refine LeO.ite ?_ ?_
      | refine LeO.bind ?_ (fun _ => ?_)
theorem archivistlaw03_UnitSpans.mono : ∀ a0 a1 a2 a3 k, LeO (archivistlaw03_UnitSpans.f k a0 a1 a2 a3) (archivistlaw03_UnitSpans.f (k + 1) a0 a1 a2 a3) := by
  intro a0 a1 a2 a3 k
  obtain ⟨ih0, ih1, ih2⟩ := archivistlaw03_UnitSpans.mono_l k
  unfold archivistlaw03_UnitSpans.f
  repeat' first
      | (with_reducible exact ih0 _ _ _ _ _ _ _)
      | (with_reducible exact ih1 _ _ _ _ _ _)
      | (with_reducible exact ih2 _ _ _ _ _)
      | (with_reducible exact archivistlaw03_examples.mono _)
      | (with_reducible exact archivistlaw03_long.mono _ _)
      | (with_reducible exact unit_Span.mono _ _)
      | (with_reducible exact LeO.refl _)
      | (with_reducible exact LeO.none _)
      | (with_reducible refine LeO.ite ?_ ?_)
      | (with_reducible refine LeO.bind ?_ (fun _ => ?_))
      | exact ih0 _ _ _ _ _ _ _
      | exact ih1 _ _ _ _ _ _
      | exact ih2 _ _ _ _ _
      | exact archivistlaw03_examples.mono _
      | exact archivistlaw03_long.mono _ _
      | exact unit_Span.mono _ _
      | exact LeO.none _
      | refine LeO.ite ?_ ?_
      | refine LeO.bind ?_ (fun _ => ?_)
set_option maxHeartbeats 8000000 in
set_option maxRecDepth 100000 in
theorem archivistlaw03_UnitSpans.calls (k : Nat) (a0 : Int) (a1 : Int) (a2 : Int) (a3 : Int) (r : Bool) (w : World) (h : archivistlaw03_UnitSpans.f k a0 a1 a2 a3 = some r) (hLd : Laid w) :
    Calls Tryd.prog 8 #[.int .u16 a0, .int .u8 a1, .int .u8 a2, .int .u16 a3] w fun e w' => e = .returned (.bool r) ∧ Below w.heap.size w w' := by
  have HLd := Aside0.mk hLd
  clear hLd
  have HB := Aside0.mk (Below.refl w.heap.size w)
  have H : ((archivistlaw03_examples.f k).bind fun t330 => (if t330 = true then ((unit_Span.f k (wrap64 ((wrap64 ((wrap64 ((wrap64 ((wrap64 ((wrap64 ((wrap64 ((wrap64 (a0)) * 60)) + (wrap64 (Int.tmod a1 60)))) * 60)) + (wrap64 (Int.tmod a2 60)))) * 1000)) + (wrap64 (Int.tmod a3 1000)))) * 1000000))).bind fun bt331 => (if a0 > 0 then ((archivistlaw03_long.f k ((a0) % 4294967296)).bind fun t333 => (if 0 + t333.size ≤ 9223372036854775807 then (if ((⟨#[]⟩ : ByteArray) ++ t333).size + 1 ≤ 9223372036854775807 then (archivistlaw03_UnitSpans.j0 k a1 a2 a3 t330 bt331.1 bt331.2 (((⟨#[]⟩ : ByteArray) ++ t333) ++ (⟨#[104]⟩ : ByteArray))) else (none)) else (none))) else (archivistlaw03_UnitSpans.j0 k a1 a2 a3 t330 bt331.1 bt331.2 (⟨#[]⟩ : ByteArray)))) else (none))) = some r := h
  clear h
  replace H := Option.bind_eq_some_iff.mp H
  obtain ⟨t330, A50, H⟩ := H
  replace H : (if t330 = true then ((unit_Span.f k (wrap64 ((wrap64 ((wrap64 ((wrap64 ((wrap64 ((wrap64 ((wrap64 ((wrap64 (a0)) * 60)) + (wrap64 (Int.tmod a1 60)))) * 60)) + (wrap64 (Int.tmod a2 60)))) * 1000)) + (wrap64 (Int.tmod a3 1000)))) * 1000000))).bind fun bt331 => (if a0 > 0 then ((archivistlaw03_long.f k ((a0) % 4294967296)).bind fun t333 => (if 0 + t333.size ≤ 9223372036854775807 then (if ((⟨#[]⟩ : ByteArray) ++ t333).size + 1 ≤ 9223372036854775807 then (archivistlaw03_UnitSpans.j0 k a1 a2 a3 t330 bt331.1 bt331.2 (((⟨#[]⟩ : ByteArray) ++ t333) ++ (⟨#[104]⟩ : ByteArray))) else (none)) else (none))) else (archivistlaw03_UnitSpans.j0 k a1 a2 a3 t330 bt331.1 bt331.2 (⟨#[]⟩ : ByteArray)))) else (none)) = some r := H
  have A5 := Aside0.mk A50
  clear A50
  by_cases c6 : t330 = true
  · subst c6
    have H1 : ((unit_Span.f k (wrap64 ((wrap64 ((wrap64 ((wrap64 ((wrap64 ((wrap64 ((wrap64 ((wrap64 (a0)) * 60)) + (wrap64 (Int.tmod a1 60)))) * 60)) + (wrap64 (Int.tmod a2 60)))) * 1000)) + (wrap64 (Int.tmod a3 1000)))) * 1000000))).bind fun bt331 => (if a0 > 0 then ((archivistlaw03_long.f k ((a0) % 4294967296)).bind fun t333 => (if 0 + t333.size ≤ 9223372036854775807 then (if ((⟨#[]⟩ : ByteArray) ++ t333).size + 1 ≤ 9223372036854775807 then (archivistlaw03_UnitSpans.j0 k a1 a2 a3 true bt331.1 bt331.2 (((⟨#[]⟩ : ByteArray) ++ t333) ++ (⟨#[104]⟩ : ByteArray))) else (none)) else (none))) else (archivistlaw03_UnitSpans.j0 k a1 a2 a3 true bt331.1 bt331.2 (⟨#[]⟩ : ByteArray)))) = some r := by rw [if_pos rfl] at H; exact H
    clear H
    have H := H1
    clear H1
    replace H := Option.bind_eq_some_iff.mp H
    obtain ⟨⟨t331, t332⟩, A70, H⟩ := H
    replace H : (if a0 > 0 then ((archivistlaw03_long.f k ((a0) % 4294967296)).bind fun t333 => (if 0 + t333.size ≤ 9223372036854775807 then (if ((⟨#[]⟩ : ByteArray) ++ t333).size + 1 ≤ 9223372036854775807 then (archivistlaw03_UnitSpans.j0 k a1 a2 a3 true t331 t332 (((⟨#[]⟩ : ByteArray) ++ t333) ++ (⟨#[104]⟩ : ByteArray))) else (none)) else (none))) else (archivistlaw03_UnitSpans.j0 k a1 a2 a3 true t331 t332 (⟨#[]⟩ : ByteArray))) = some r := H
    have A7 := Aside0.mk A70
    clear A70
    have HC8 := Aside0.mk H
    clear H
    go_enter Tryd.func8, Tryd.ntmps8
    go_upto_if 41 with (first | ((with_reducible refine gate_callee (f := 10) rfl ?_); refine goesL_ (some 14) rfl rfl Tryd.func10 (by kernel_rfl) rfl #[] rfl (by (try simp only [List.map_toArray, List.map_cons, List.map_nil]); first | done | rfl | (simp only [List.length_drop, List.length_take]; rfl)) ?_; (with_reducible refine (archivistlaw03_examples.calls k  true _ A5.out ?sideLd).mono ?_); (case sideLd => exact laid_below HLd.out (by repeat (first | (with_reducible first | exact HB.out | apply below_alloc | apply pw_below_drewN | apply below_drew1) | exact HB.out))); rintro e w9 ⟨rfl, hb⟩; refine ⟨_, rfl, ?_⟩; have n0_ := Aside0.mk (below_step (by repeat (first | (with_reducible first | exact HB.out | apply below_alloc | apply pw_below_drewN | apply below_drew1) | exact HB.out)) hb); clear HB; have HB := n0_; clear n0_; (try clear hb); (try clear hb2); (try clear hk); (try clear hi)) | ((with_reducible refine gate_callee (f := 16) rfl ?_); refine goesL_ (some 37) rfl rfl Tryd.func16 (by kernel_rfl) rfl #[.int .i64 (wrap64 ((wrap64 ((wrap64 ((wrap64 ((wrap64 ((wrap64 ((wrap64 ((wrap64 (a0)) * 60)) + (wrap64 (Int.tmod a1 60)))) * 60)) + (wrap64 (Int.tmod a2 60)))) * 1000)) + (wrap64 (Int.tmod a3 1000)))) * 1000000))] rfl (by (try simp only [List.map_toArray, List.map_cons, List.map_nil]); first | done | rfl | (simp only [List.length_drop, List.length_take]; rfl)) ?_; (with_reducible refine (unit_Span.calls k (wrap64 ((wrap64 ((wrap64 ((wrap64 ((wrap64 ((wrap64 ((wrap64 ((wrap64 (a0)) * 60)) + (wrap64 (Int.tmod a1 60)))) * 60)) + (wrap64 (Int.tmod a2 60)))) * 1000)) + (wrap64 (Int.tmod a3 1000)))) * 1000000)) t331 t332 _ A7.out ?sideLd).mono ?_); (case sideLd => exact laid_below HLd.out (by repeat (first | (with_reducible first | exact HB.out | apply below_alloc | apply pw_below_drewN | apply below_drew1) | exact HB.out))); rintro e w10 ⟨rfl, hb⟩; refine ⟨_, rfl, ?_⟩; have n0_ := Aside0.mk (below_step (by repeat (first | (with_reducible first | exact HB.out | apply below_alloc | apply pw_below_drewN | apply below_drew1) | exact HB.out)) hb); clear HB; have HB := n0_; clear n0_; (try clear hb); (try clear hb2); (try clear hk); (try clear hi)))
    (try simp only [Act.put, List.setIfInBounds_toArray, List.set_cons_zero, List.set_cons_succ])
    go_cut [13] (fun v13 wc => ∃ (kq : Nat) (x13_7 : ByteArray), v13 = .string x13_7 ∧ Aside0 (archivistlaw03_UnitSpans.j0 kq a1 a2 a3 true t331 t332 x13_7 = some r) ∧ Aside0 (kq ≤ k) ∧ Aside0 (Below w.heap.size w wc))
    case first =>
      have H := HC8.out
      clear HC8
      by_cases c11 : a0 > 0
      · rw [if_pos c11] at H
        have c11b0 : decide (0 < a0) = true := decide_eq_true c11
        clear c11
        (first | rw [c11b0] | (simp only [i64_w, i32_w]; rw [c11b0]) | skip)
        replace H := Option.bind_eq_some_iff.mp H
        obtain ⟨t333, A120, H⟩ := H
        replace H : (if 0 + t333.size ≤ 9223372036854775807 then (if ((⟨#[]⟩ : ByteArray) ++ t333).size + 1 ≤ 9223372036854775807 then (archivistlaw03_UnitSpans.j0 k a1 a2 a3 true t331 t332 (((⟨#[]⟩ : ByteArray) ++ t333) ++ (⟨#[104]⟩ : ByteArray))) else (none)) else (none)) = some r := H
        have A12 := Aside0.mk A120
        clear A120
        by_cases c13 : 0 + t333.size ≤ 9223372036854775807
        · rw [if_pos c13] at H
          have c13b0 := eq_true c13
          have c13b1 : decide (0 + t333.size ≤ 9223372036854775807) = true := decide_eq_true c13
          try have c13b2 : (9223372036854775807 < 0 + t333.size) = False := eq_false (Nat.not_lt.2 c13)
          by_cases c14 : ((⟨#[]⟩ : ByteArray) ++ t333).size + 1 ≤ 9223372036854775807
          · rw [if_pos c14] at H
            have c14b0 := eq_true c14
            have c14b1 : decide (((⟨#[]⟩ : ByteArray) ++ t333).size + 1 ≤ 9223372036854775807) = true := decide_eq_true c14
            try have c14b2 : (9223372036854775807 < ((⟨#[]⟩ : ByteArray) ++ t333).size + 1) = False := eq_false (Nat.not_lt.2 c14)
            try (have c14b3 : (9223372036854775807 < ((⟨#[]⟩ : ByteArray) ++ t333).size + 1) = False := eq_false (Nat.not_lt.2 c14); simp only [ByteArray.size_append, show (⟨#[]⟩ : ByteArray).size = 0 from rfl, Nat.add_zero, Nat.zero_add] at c14b3)
            have H' := Aside0.mk H
            clear H
            go_wp2_with (first | ((with_reducible refine gate_callee (f := 21) rfl ?_); refine goesL_ (some 45) rfl rfl Tryd.func21 (by kernel_rfl) rfl #[.int .u32 ((a0) % 4294967296)] rfl (by (try simp only [List.map_toArray, List.map_cons, List.map_nil]); first | done | rfl | (simp only [List.length_drop, List.length_take]; rfl)) ?_; (with_reducible refine (archivistlaw03_long.calls k ((a0) % 4294967296) t333 _ A12.out).mono ?_); rintro e w15 ⟨rfl, hb⟩; refine ⟨_, rfl, ?_⟩; have n0_ := Aside0.mk (below_step (by repeat (first | (with_reducible first | exact HB.out | apply below_alloc | apply pw_below_drewN | apply below_drew1) | exact HB.out)) hb); clear HB; have HB := n0_; clear n0_; (try clear hb); (try clear hb2); (try clear hk); (try clear hi)))
            go_meet
            case rel => exact ⟨_, (((⟨#[]⟩ : ByteArray) ++ t333) ++ (⟨#[104]⟩ : ByteArray)), (by first | rfl | (simp; done) | (simp [*]; done)), H', ⟨by first | omega | exact Nat.le_refl _⟩, ⟨by repeat (first | (with_reducible first | exact HB.out | apply below_alloc | apply pw_below_drewN | apply below_drew1) | exact HB.out)⟩⟩
          · rw [if_neg c14] at H
            exact absurd H (by simp)
        · rw [if_neg c13] at H
          exact absurd H (by simp)
      · rw [if_neg c11] at H
        have c11b0 : decide (0 < a0) = false := decide_eq_false c11
        clear c11
        (first | rw [c11b0] | (simp only [i64_w, i32_w]; rw [c11b0]) | skip)
        have H' := Aside0.mk H
        clear H
        go_wp2
        go_meet
        case rel => exact ⟨_, ((⟨#[]⟩ : ByteArray)), (by first | rfl | (simp; done) | (simp [*]; done)), H', ⟨by first | omega | exact Nat.le_refl _⟩, ⟨by repeat (first | (with_reducible first | exact HB.out | apply below_alloc | apply pw_below_drewN | apply below_drew1) | exact HB.out)⟩⟩
    case rest =>
      clear HC8
      try clear c1
      try clear c2
      try clear p2
      try clear c6
      try clear p6
      try clear c8
      try clear c10
      try clear c11
      try clear c11b0
      try clear c13
      try clear c13b0
      try clear c13b1
      try clear c13b2
      try clear c14
      try clear c14b0
      try clear c14b1
      try clear c14b2
      obtain ⟨kq, x13_7, rfl, HA, HJ7, HB⟩ := hcut
      cases kq with
      | zero => exact absurd HA.out (by simp [archivistlaw03_UnitSpans.j0])
      | succ kj7 =>
        have H := HA.out
        clear HA
        simp only [archivistlaw03_UnitSpans.j0] at H
        have HC16 := Aside0.mk H
        clear H
        go_upto_if 50 with (fail)
        go_cut [13] (fun v13 wc => ∃ (kq : Nat) (x13_15 : ByteArray), v13 = .string x13_15 ∧ Aside0 (archivistlaw03_UnitSpans.j1 kq a2 a3 true t331 t332 x13_15 = some r) ∧ Aside0 (kq ≤ kj7) ∧ Aside0 (Below w.heap.size w wc))
        case first =>
          have H := HC16.out
          clear HC16
          by_cases c17 : (Int.tmod a1 60) > 0
          · rw [if_pos c17] at H
            have c17b0 : decide (0 < (Int.tmod a1 60)) = true := decide_eq_true c17
            clear c17
            (first | rw [c17b0] | (simp only [i64_w, i32_w]; rw [c17b0]) | skip)
            replace H := Option.bind_eq_some_iff.mp H
            obtain ⟨t334, A180, H⟩ := H
            replace H : (if x13_7.size + t334.size ≤ 9223372036854775807 then (if (x13_7 ++ t334).size + 1 ≤ 9223372036854775807 then (archivistlaw03_UnitSpans.j1 kj7 a2 a3 true t331 t332 ((x13_7 ++ t334) ++ (⟨#[109]⟩ : ByteArray))) else (none)) else (none)) = some r := H
            have A18 := Aside0.mk A180
            clear A180
            by_cases c19 : x13_7.size + t334.size ≤ 9223372036854775807
            · rw [if_pos c19] at H
              have c19b0 := eq_true c19
              have c19b1 : decide (x13_7.size + t334.size ≤ 9223372036854775807) = true := decide_eq_true c19
              try have c19b2 : (9223372036854775807 < x13_7.size + t334.size) = False := eq_false (Nat.not_lt.2 c19)
              by_cases c20 : (x13_7 ++ t334).size + 1 ≤ 9223372036854775807
              · rw [if_pos c20] at H
                have c20b0 := eq_true c20
                have c20b1 : decide ((x13_7 ++ t334).size + 1 ≤ 9223372036854775807) = true := decide_eq_true c20
                try have c20b2 : (9223372036854775807 < (x13_7 ++ t334).size + 1) = False := eq_false (Nat.not_lt.2 c20)
                try (have c20b3 : (9223372036854775807 < (x13_7 ++ t334).size + 1) = False := eq_false (Nat.not_lt.2 c20); simp only [ByteArray.size_append, Nat.add_zero, Nat.zero_add] at c20b3)
                have H' := Aside0.mk H
                clear H
                go_wp2_with (first | ((with_reducible refine gate_callee (f := 20) rfl ?_); refine goesL_ (some 54) rfl rfl Tryd.func20 (by kernel_rfl) rfl #[.int .u8 (Int.tmod a1 60)] rfl (by (try simp only [List.map_toArray, List.map_cons, List.map_nil]); first | done | rfl | (simp only [List.length_drop, List.length_take]; rfl)) ?_; (with_reducible refine (archivistlaw03_digits.calls (Int.tmod a1 60) t334 _ A18.out).mono ?_); rintro e w21 ⟨rfl, hb⟩; refine ⟨_, rfl, ?_⟩; have n0_ := Aside0.mk (below_step (by repeat (first | (with_reducible first | exact HB.out | apply below_alloc | apply pw_below_drewN | apply below_drew1) | exact HB.out)) hb); clear HB; have HB := n0_; clear n0_; (try clear hb); (try clear hb2); (try clear hk); (try clear hi)))
                go_meet
                case rel => exact ⟨_, ((x13_7 ++ t334) ++ (⟨#[109]⟩ : ByteArray)), (by first | rfl | (simp; done) | (simp [*]; done)), H', ⟨by have := HJ7.out; first | omega | exact Nat.le_refl _⟩, ⟨by repeat (first | (with_reducible first | exact HB.out | apply below_alloc | apply pw_below_drewN | apply below_drew1) | exact HB.out)⟩⟩
              · rw [if_neg c20] at H
                exact absurd H (by simp)
            · rw [if_neg c19] at H
              exact absurd H (by simp)
          · rw [if_neg c17] at H
            have c17b0 : decide (0 < (Int.tmod a1 60)) = false := decide_eq_false c17
            clear c17
            (first | rw [c17b0] | (simp only [i64_w, i32_w]; rw [c17b0]) | skip)
            have H' := Aside0.mk H
            clear H
            go_wp2
            go_meet
            case rel => exact ⟨_, (x13_7), (by first | rfl | (simp; done) | (simp [*]; done)), H', ⟨by have := HJ7.out; first | omega | exact Nat.le_refl _⟩, ⟨by repeat (first | (with_reducible first | exact HB.out | apply below_alloc | apply pw_below_drewN | apply below_drew1) | exact HB.out)⟩⟩
        case rest =>
          clear HC16
          try clear c1
          try clear c2
          try clear p2
          try clear c6
          try clear p6
          try clear c8
          try clear c10
          try clear c11
          try clear c11b0
          try clear c13
          try clear c13b0
          try clear c13b1
          try clear c13b2
          try clear c14
          try clear c14b0
          try clear c14b1
          try clear c14b2
          try clear c16
          try clear c17
          try clear c17b0
          try clear c19
          try clear c19b0
          try clear c19b1
          try clear c19b2
          try clear c20
          try clear c20b0
          try clear c20b1
          try clear c20b2
          try clear c21
          try clear p2
          try clear p6
          obtain ⟨kq, x13_15, rfl, HA, HJ15, HB⟩ := hcut
          cases kq with
          | zero => exact absurd HA.out (by simp [archivistlaw03_UnitSpans.j1])
          | succ kj15 =>
            have H := HA.out
            clear HA
            simp only [archivistlaw03_UnitSpans.j1] at H
            have HC22 := Aside0.mk H
            clear H
            go_upto_if 59 with (fail)
            go_cut [13] (fun v13 wc => ∃ (kq : Nat) (x13_21 : ByteArray), v13 = .string x13_21 ∧ Aside0 (archivistlaw03_UnitSpans.j2 kq a3 true t331 t332 x13_21 = some r) ∧ Aside0 (kq ≤ kj15) ∧ Aside0 (Below w.heap.size w wc))
            case first =>
              have H := HC22.out
              clear HC22
              by_cases c23 : (Int.tmod a2 60) > 0
              · rw [if_pos c23] at H
                have c23b0 : decide (0 < (Int.tmod a2 60)) = true := decide_eq_true c23
                clear c23
                (first | rw [c23b0] | (simp only [i64_w, i32_w]; rw [c23b0]) | skip)
                replace H := Option.bind_eq_some_iff.mp H
                obtain ⟨t335, A240, H⟩ := H
                replace H : (if x13_15.size + t335.size ≤ 9223372036854775807 then (if (x13_15 ++ t335).size + 1 ≤ 9223372036854775807 then (archivistlaw03_UnitSpans.j2 kj15 a3 true t331 t332 ((x13_15 ++ t335) ++ (⟨#[115]⟩ : ByteArray))) else (none)) else (none)) = some r := H
                have A24 := Aside0.mk A240
                clear A240
                by_cases c25 : x13_15.size + t335.size ≤ 9223372036854775807
                · rw [if_pos c25] at H
                  have c25b0 := eq_true c25
                  have c25b1 : decide (x13_15.size + t335.size ≤ 9223372036854775807) = true := decide_eq_true c25
                  try have c25b2 : (9223372036854775807 < x13_15.size + t335.size) = False := eq_false (Nat.not_lt.2 c25)
                  by_cases c26 : (x13_15 ++ t335).size + 1 ≤ 9223372036854775807
                  · rw [if_pos c26] at H
                    have c26b0 := eq_true c26
                    have c26b1 : decide ((x13_15 ++ t335).size + 1 ≤ 9223372036854775807) = true := decide_eq_true c26
                    try have c26b2 : (9223372036854775807 < (x13_15 ++ t335).size + 1) = False := eq_false (Nat.not_lt.2 c26)
                    try (have c26b3 : (9223372036854775807 < (x13_15 ++ t335).size + 1) = False := eq_false (Nat.not_lt.2 c26); simp only [ByteArray.size_append, Nat.add_zero, Nat.zero_add] at c26b3)
                    have H' := Aside0.mk H
                    clear H
                    go_wp2_with (first | ((with_reducible refine gate_callee (f := 20) rfl ?_); refine goesL_ (some 63) rfl rfl Tryd.func20 (by kernel_rfl) rfl #[.int .u8 (Int.tmod a2 60)] rfl (by (try simp only [List.map_toArray, List.map_cons, List.map_nil]); first | done | rfl | (simp only [List.length_drop, List.length_take]; rfl)) ?_; (with_reducible refine (archivistlaw03_digits.calls (Int.tmod a2 60) t335 _ A24.out).mono ?_); rintro e w27 ⟨rfl, hb⟩; refine ⟨_, rfl, ?_⟩; have n0_ := Aside0.mk (below_step (by repeat (first | (with_reducible first | exact HB.out | apply below_alloc | apply pw_below_drewN | apply below_drew1) | exact HB.out)) hb); clear HB; have HB := n0_; clear n0_; (try clear hb); (try clear hb2); (try clear hk); (try clear hi)))
                    go_meet
                    case rel => exact ⟨_, ((x13_15 ++ t335) ++ (⟨#[115]⟩ : ByteArray)), (by first | rfl | (simp; done) | (simp [*]; done)), H', ⟨by have := HJ7.out; have := HJ15.out; first | omega | exact Nat.le_refl _⟩, ⟨by repeat (first | (with_reducible first | exact HB.out | apply below_alloc | apply pw_below_drewN | apply below_drew1) | exact HB.out)⟩⟩
                  · rw [if_neg c26] at H
                    exact absurd H (by simp)
                · rw [if_neg c25] at H
                  exact absurd H (by simp)
              · rw [if_neg c23] at H
                have c23b0 : decide (0 < (Int.tmod a2 60)) = false := decide_eq_false c23
                clear c23
                (first | rw [c23b0] | (simp only [i64_w, i32_w]; rw [c23b0]) | skip)
                have H' := Aside0.mk H
                clear H
                go_wp2
                go_meet
                case rel => exact ⟨_, (x13_15), (by first | rfl | (simp; done) | (simp [*]; done)), H', ⟨by have := HJ7.out; have := HJ15.out; first | omega | exact Nat.le_refl _⟩, ⟨by repeat (first | (with_reducible first | exact HB.out | apply below_alloc | apply pw_below_drewN | apply below_drew1) | exact HB.out)⟩⟩
            case rest =>
              clear HC22
              try clear c1
              try clear c2
              try clear p2
              try clear c6
              try clear p6
              try clear c8
              try clear c10
              try clear c11
              try clear c11b0
              try clear c13
              try clear c13b0
              try clear c13b1
              try clear c13b2
              try clear c14
              try clear c14b0
              try clear c14b1
              try clear c14b2
              try clear c16
              try clear c17
              try clear c17b0
              try clear c19
              try clear c19b0
              try clear c19b1
              try clear c19b2
              try clear c20
              try clear c20b0
              try clear c20b1
              try clear c20b2
              try clear c21
              try clear c23
              try clear c23b0
              try clear c25
              try clear c25b0
              try clear c25b1
              try clear c25b2
              try clear c26
              try clear c26b0
              try clear c26b1
              try clear c26b2
              try clear p2
              try clear p6
              obtain ⟨kq, x13_21, rfl, HA, HJ21, HB⟩ := hcut
              cases kq with
              | zero => exact absurd HA.out (by simp [archivistlaw03_UnitSpans.j2])
              | succ kj21 =>
                have H := HA.out
                clear HA
                simp only [archivistlaw03_UnitSpans.j2] at H
                by_cases c28 : (Int.tmod a3 1000) > 0
                · rw [if_pos c28] at H
                  have c28b0 : decide (0 < (Int.tmod a3 1000)) = true := decide_eq_true c28
                  clear c28
                  replace H := Option.bind_eq_some_iff.mp H
                  obtain ⟨t336, A290, H⟩ := H
                  replace H : (if x13_21.size + t336.size ≤ 9223372036854775807 then (if (x13_21 ++ t336).size + 2 ≤ 9223372036854775807 then (if ((x13_21 ++ t336) ++ (⟨#[109, 115]⟩ : ByteArray)).toList = ([] : List UInt8) then (if true = true then (if t332 = true then (some (t331.toList == ([48, 115] : List UInt8))) else (none)) else (none)) else (if true = true then (if t332 = true then (some (t331.toList == ((x13_21 ++ t336) ++ (⟨#[109, 115]⟩ : ByteArray)).toList)) else (none)) else (none))) else (none)) else (none)) = some r := H
                  have A29 := Aside0.mk A290
                  clear A290
                  by_cases c30 : x13_21.size + t336.size ≤ 9223372036854775807
                  · rw [if_pos c30] at H
                    have c30b0 := eq_true c30
                    have c30b1 : decide (x13_21.size + t336.size ≤ 9223372036854775807) = true := decide_eq_true c30
                    try have c30b2 : (9223372036854775807 < x13_21.size + t336.size) = False := eq_false (Nat.not_lt.2 c30)
                    by_cases c31 : (x13_21 ++ t336).size + 2 ≤ 9223372036854775807
                    · rw [if_pos c31] at H
                      have c31b0 := eq_true c31
                      have c31b1 : decide ((x13_21 ++ t336).size + 2 ≤ 9223372036854775807) = true := decide_eq_true c31
                      try have c31b2 : (9223372036854775807 < (x13_21 ++ t336).size + 2) = False := eq_false (Nat.not_lt.2 c31)
                      try (have c31b3 : (9223372036854775807 < (x13_21 ++ t336).size + 2) = False := eq_false (Nat.not_lt.2 c31); simp only [ByteArray.size_append, Nat.add_zero, Nat.zero_add] at c31b3)
                      by_cases c32 : ((x13_21 ++ t336) ++ (⟨#[109, 115]⟩ : ByteArray)).toList = ([] : List UInt8)
                      · rw [if_pos c32] at H
                        have c32b0 : (((x13_21 ++ t336) ++ (⟨#[109, 115]⟩ : ByteArray)).toList == ([] : List UInt8)) = true := beq_iff_eq.mpr c32
                        have c32b1 : (((x13_21 ++ t336) ++ (⟨#[109, 115]⟩ : ByteArray)).toList != ([] : List UInt8)) = false := bne_eq_false_iff_eq.mpr c32
                        clear c32
                        by_cases c33 : true = true
                        · clear c33
                          have H1 : (if t332 = true then (some (t331.toList == ([48, 115] : List UInt8))) else (none)) = some r := by first | (rw [if_pos rfl] at H; exact H) | (rw [if_pos trivial] at H; exact H)
                          clear H
                          have H := H1
                          clear H1
                          by_cases c34 : t332 = true
                          · subst c34
                            have H1 : (some (t331.toList == ([48, 115] : List UInt8))) = some r := by first | (rw [if_pos rfl] at H; exact H) | (rw [if_pos trivial] at H; exact H)
                            clear H
                            have H := H1
                            clear H1
                            obtain rfl := Option.some.inj H
                            go_wp2_with (first | ((with_reducible refine gate_callee (f := 21) rfl ?_); refine goesL_ (some 73) rfl rfl Tryd.func21 (by kernel_rfl) rfl #[.int .u32 ((Int.tmod a3 1000) % 4294967296)] rfl (by (try simp only [List.map_toArray, List.map_cons, List.map_nil]); first | done | rfl | (simp only [List.length_drop, List.length_take]; rfl)) ?_; (with_reducible refine (archivistlaw03_long.calls kj21 ((Int.tmod a3 1000) % 4294967296) t336 _ A29.out).mono ?_); rintro e w35 ⟨rfl, hb⟩; refine ⟨_, rfl, ?_⟩; have n0_ := Aside0.mk (below_step (by repeat (first | (with_reducible first | exact HB.out | apply below_alloc | apply pw_below_drewN | apply below_drew1) | exact HB.out)) hb); clear HB; have HB := n0_; clear n0_; (try clear hb); (try clear hb2); (try clear hk); (try clear hi)))
                            go_ret
                            exact ⟨by first | rfl | (simp [errW_none, errW_some] <;> rfl) | (simp [*, errW_none, errW_some] <;> rfl), by repeat (first | (with_reducible first | exact HB.out | apply below_alloc | apply pw_below_drewN | apply below_drew1) | exact HB.out)⟩
                          · replace c34 := Bool.eq_false_iff.mpr c34
                            subst c34
                            have H1 : (none) = some r := by rw [if_neg (show ¬ (false = true) by decide)] at H; exact H
                            clear H
                            have H := H1
                            clear H1
                            exact absurd H (by simp)
                        · exact absurd rfl c33
                      · rw [if_neg c32] at H
                        have c32b0 : (((x13_21 ++ t336) ++ (⟨#[109, 115]⟩ : ByteArray)).toList == ([] : List UInt8)) = false := beq_eq_false_iff_ne.mpr c32
                        have c32b1 : (((x13_21 ++ t336) ++ (⟨#[109, 115]⟩ : ByteArray)).toList != ([] : List UInt8)) = true := bne_iff_ne.mpr c32
                        by_cases c36 : true = true
                        · clear c36
                          have H1 : (if t332 = true then (some (t331.toList == ((x13_21 ++ t336) ++ (⟨#[109, 115]⟩ : ByteArray)).toList)) else (none)) = some r := by first | (rw [if_pos rfl] at H; exact H) | (rw [if_pos trivial] at H; exact H)
                          clear H
                          have H := H1
                          clear H1
                          by_cases c37 : t332 = true
                          · subst c37
                            have H1 : (some (t331.toList == ((x13_21 ++ t336) ++ (⟨#[109, 115]⟩ : ByteArray)).toList)) = some r := by first | (rw [if_pos rfl] at H; exact H) | (rw [if_pos trivial] at H; exact H)
                            clear H
                            have H := H1
                            clear H1
                            obtain rfl := Option.some.inj H
                            go_wp2_with (first | ((with_reducible refine gate_callee (f := 21) rfl ?_); refine goesL_ (some 73) rfl rfl Tryd.func21 (by kernel_rfl) rfl #[.int .u32 ((Int.tmod a3 1000) % 4294967296)] rfl (by (try simp only [List.map_toArray, List.map_cons, List.map_nil]); first | done | rfl | (simp only [List.length_drop, List.length_take]; rfl)) ?_; (with_reducible refine (archivistlaw03_long.calls kj21 ((Int.tmod a3 1000) % 4294967296) t336 _ A29.out).mono ?_); rintro e w38 ⟨rfl, hb⟩; refine ⟨_, rfl, ?_⟩; have n0_ := Aside0.mk (below_step (by repeat (first | (with_reducible first | exact HB.out | apply below_alloc | apply pw_below_drewN | apply below_drew1) | exact HB.out)) hb); clear HB; have HB := n0_; clear n0_; (try clear hb); (try clear hb2); (try clear hk); (try clear hi)))
                            go_ret
                            exact ⟨by first | rfl | (simp [errW_none, errW_some] <;> rfl) | (simp [*, errW_none, errW_some] <;> rfl), by repeat (first | (with_reducible first | exact HB.out | apply below_alloc | apply pw_below_drewN | apply below_drew1) | exact HB.out)⟩
                          · replace c37 := Bool.eq_false_iff.mpr c37
                            subst c37
                            have H1 : (none) = some r := by rw [if_neg (show ¬ (false = true) by decide)] at H; exact H
                            clear H
                            have H := H1
                            clear H1
                            exact absurd H (by simp)
                        · exact absurd rfl c36
                    · rw [if_neg c31] at H
                      exact absurd H (by simp)
                  · rw [if_neg c30] at H
                    exact absurd H (by simp)
                · rw [if_neg c28] at H
                  have c28b0 : decide (0 < (Int.tmod a3 1000)) = false := decide_eq_false c28
                  clear c28
                  by_cases c39 : x13_21.toList = ([] : List UInt8)
                  · rw [if_pos c39] at H
                    have c39b0 : (x13_21.toList == ([] : List UInt8)) = true := beq_iff_eq.mpr c39
                    have c39b1 : (x13_21.toList != ([] : List UInt8)) = false := bne_eq_false_iff_eq.mpr c39
                    clear c39
                    by_cases c40 : true = true
                    · clear c40
                      have H1 : (if t332 = true then (some (t331.toList == ([48, 115] : List UInt8))) else (none)) = some r := by first | (rw [if_pos rfl] at H; exact H) | (rw [if_pos trivial] at H; exact H)
                      clear H
                      have H := H1
                      clear H1
                      by_cases c41 : t332 = true
                      · subst c41
                        have H1 : (some (t331.toList == ([48, 115] : List UInt8))) = some r := by first | (rw [if_pos rfl] at H; exact H) | (rw [if_pos trivial] at H; exact H)
                        clear H
                        have H := H1
                        clear H1
                        obtain rfl := Option.some.inj H
                        go_wp2
                        go_ret
                        exact ⟨by first | rfl | (simp [errW_none, errW_some] <;> rfl) | (simp [*, errW_none, errW_some] <;> rfl), by repeat (first | (with_reducible first | exact HB.out | apply below_alloc | apply pw_below_drewN | apply below_drew1) | exact HB.out)⟩
                      · replace c41 := Bool.eq_false_iff.mpr c41
                        subst c41
                        have H1 : (none) = some r := by rw [if_neg (show ¬ (false = true) by decide)] at H; exact H
                        clear H
                        have H := H1
                        clear H1
                        exact absurd H (by simp)
                    · exact absurd rfl c40
                  · rw [if_neg c39] at H
                    have c39b0 : (x13_21.toList == ([] : List UInt8)) = false := beq_eq_false_iff_ne.mpr c39
                    have c39b1 : (x13_21.toList != ([] : List UInt8)) = true := bne_iff_ne.mpr c39
                    by_cases c42 : true = true
                    · clear c42
                      have H1 : (if t332 = true then (some (t331.toList == x13_21.toList)) else (none)) = some r := by first | (rw [if_pos rfl] at H; exact H) | (rw [if_pos trivial] at H; exact H)
                      clear H
                      have H := H1
                      clear H1
                      by_cases c43 : t332 = true
                      · subst c43
                        have H1 : (some (t331.toList == x13_21.toList)) = some r := by first | (rw [if_pos rfl] at H; exact H) | (rw [if_pos trivial] at H; exact H)
                        clear H
                        have H := H1
                        clear H1
                        obtain rfl := Option.some.inj H
                        go_wp2
                        go_ret
                        exact ⟨by first | rfl | (simp [errW_none, errW_some] <;> rfl) | (simp [*, errW_none, errW_some] <;> rfl), by repeat (first | (with_reducible first | exact HB.out | apply below_alloc | apply pw_below_drewN | apply below_drew1) | exact HB.out)⟩
                      · replace c43 := Bool.eq_false_iff.mpr c43
                        subst c43
                        have H1 : (none) = some r := by rw [if_neg (show ¬ (false = true) by decide)] at H; exact H
                        clear H
                        have H := H1
                        clear H1
                        exact absurd H (by simp)
                    · exact absurd rfl c42
  · replace c6 := Bool.eq_false_iff.mpr c6
    subst c6
    have H1 : (none) = some r := by rw [if_neg (show ¬ (false = true) by decide)] at H; exact H
    clear H
    have H := H1
    clear H1
    exact absurd H (by simp)

/-- THE ONE PURE STATEMENT of archivistlaw03_UnitSpans: yours. -/
def archivistlaw03_UnitSpans.Pure : Prop := ∀ (a0 : Int) (a1 : Int) (a2 : Int) (a3 : Int), (Lit.int .u16 a0).wf = true → (Lit.int .u8 a1).wf = true → (Lit.int .u8 a2).wf = true → (Lit.int .u16 a3).wf = true → ∃ k, archivistlaw03_UnitSpans.f k a0 a1 a2 a3 = some true
theorem archivistlaw03_UnitSpans.walk (P : archivistlaw03_UnitSpans.Pure) (a0 : Int) (a1 : Int) (a2 : Int) (a3 : Int) (w : World) (w0 : (Lit.int .u16 a0).wf = true) (w1 : (Lit.int .u8 a1).wf = true) (w2 : (Lit.int .u8 a2).wf = true) (w3 : (Lit.int .u16 a3).wf = true) (hLd : Laid w) :
    Calls Tryd.prog 8 #[.int .u16 a0, .int .u8 a1, .int .u8 a2, .int .u16 a3] w fun e w' => e = .returned (.bool true) ∧ Below w.heap.size w w' := by
  obtain ⟨k, h⟩ := P a0 a1 a2 a3 w0 w1 w2 w3
  refine (archivistlaw03_UnitSpans.calls k a0 a1 a2 a3 true w h hLd).mono ?_
  rintro e w' ⟨rfl, hd⟩
  exact ⟨rfl, hd⟩

end Go.Proofs.YtpijoadbaocnpaaDoor.X
