-- Laid by xprint.py, a program of this session's, out of the translation.
import Derived.Test.YtpijoadbaocnpaaDoorX0
import Derived.Test.YtpijoadbaocnpaaDoorX1
import Derived.Test.YtpijoadbaocnpaaDoorX3
import Derived.Test.YtpijoadbaocnpaaDoorX5
import Derived.Test.YtpijoadbaocnpaaDoorX7
import Derived.Test.YtpijoadbaocnpaaDoorX8
namespace Go.Proofs.YtpijoadbaocnpaaDoor.X
open Go.RowKit Go.Proofs.YtpijoadbaocnpaaDoorW.PrintWords Go.Proofs.YtpijoadbaocnpaaDoorW.PrintLast Go.Proofs.YtpijoadbaocnpaaDoorW.PrintMore
attribute [local go_sem] max2_int min2_int max_two min_two max_three min_three max_four min_four x_isSome x_str_gtr x_str_leq x_str_geq   -- for this text's walks alone
set_option linter.unusedVariables false
set_option linter.unusedSimpArgs false

/-! ### archivistref03_Bytes: function 15 -/
def archivistref03_Bytes.j0 : Nat → Int → Int → Bool → Option (Int × Bool)
  | 0, _, _, _ => none
  | k + 1, x4, x5, x22 => if x22 = true then (some (0, false)) else ((archivistref03_factors.f true).bind fun t236 => (if 0 ≤ x5 then (if x5 < (t236.length : Int) then ((archivistref02_Times.f k x4 (rd t236 x5)).bind fun bt240 => (some (bt240.1, bt240.2))) else (none)) else (none)))
def archivistref03_Bytes.f (k : Nat) (a0 : ByteArray) : Option (Int × Bool) := (archivistref03_part.f k a0 true).bind fun bt232 => (if bt232.2.2.2 = true then (archivistref03_Bytes.j0 k bt232.1 bt232.2.1 (bt232.2.2.1 != (a0.size : Int))) else (archivistref03_Bytes.j0 k bt232.1 bt232.2.1 true))
theorem archivistref03_Bytes.mono_l : ∀ k, (∀ y0 y1 y2, LeO (archivistref03_Bytes.j0 k y0 y1 y2) (archivistref03_Bytes.j0 (k + 1) y0 y1 y2))
  | 0 => fun _ _ _ r h => by simp [archivistref03_Bytes.j0] at h
  | k + 1 => by
    have ih0 := archivistref03_Bytes.mono_l k
    · intro y0 y1 y2
      unfold archivistref03_Bytes.j0
      repeat' first
      | (with_reducible exact ih0 _ _ _)
      | (with_reducible exact archivistref02_Times.mono _ _ _)
      | (with_reducible exact archivistref03_part.mono _ _ _)
      | (with_reducible exact LeO.refl _)
      | (with_reducible exact LeO.none _)
      | (with_reducible refine LeO.ite ?_ ?_)
      | (with_reducible refine LeO.bind ?_ (fun _ => ?_))
      | exact ih0 _ _ _
      | exact archivistref02_Times.mono _ _ _
      | exact archivistref03_part.mono _ _ _
      | exact LeO.none _
      | refine LeO.ite ?_ ?_
      | refine LeO.bind ?_ (fun _ => ?_)
theorem archivistref03_Bytes.mono : ∀ a0 k, LeO (archivistref03_Bytes.f k a0) (archivistref03_Bytes.f (k + 1) a0) := by
  intro a0 k
  have ih0 := archivistref03_Bytes.mono_l k
  unfold archivistref03_Bytes.f
  repeat' first
      | (with_reducible exact ih0 _ _ _)
      | (with_reducible exact archivistref02_Times.mono _ _ _)
      | (with_reducible exact archivistref03_part.mono _ _ _)
      | (with_reducible exact LeO.refl _)
      | (with_reducible exact LeO.none _)
      | (with_reducible refine LeO.ite ?_ ?_)
      | (with_reducible refine LeO.bind ?_ (fun _ => ?_))
      | exact ih0 _ _ _
      | exact archivistref02_Times.mono _ _ _
      | exact archivistref03_part.mono _ _ _
      | exact LeO.none _
      | refine LeO.ite ?_ ?_
      | refine LeO.bind ?_ (fun _ => ?_)
set_option maxHeartbeats 8000000 in
set_option maxRecDepth 100000 in
theorem archivistref03_Bytes.calls (k : Nat) (a0 : ByteArray) (r1 : Int) (r2 : Bool) (w : World) (h : archivistref03_Bytes.f k a0 = some (r1, r2)) :
    Calls Tryd.prog 15 #[.string a0] w fun e w' => e = .returned (.tuple #[.int .i64 r1, .bool r2]) ∧ Below w.heap.size w w' := by
  have HB := Aside0.mk (Below.refl w.heap.size w)
  have H : ((archivistref03_part.f k a0 true).bind fun bt232 => (if bt232.2.2.2 = true then (archivistref03_Bytes.j0 k bt232.1 bt232.2.1 (bt232.2.2.1 != (a0.size : Int))) else (archivistref03_Bytes.j0 k bt232.1 bt232.2.1 true))) = some (r1, r2) := h
  clear h
  replace H := Option.bind_eq_some_iff.mp H
  obtain ⟨⟨t232, t233, t234, t235⟩, A20, H⟩ := H
  replace H : (if t235 = true then (archivistref03_Bytes.j0 k t232 t233 (t234 != (a0.size : Int))) else (archivistref03_Bytes.j0 k t232 t233 true)) = some (r1, r2) := H
  have A2 := Aside0.mk A20
  clear A20
  have HC3 := Aside0.mk H
  clear H
  go_enter Tryd.func15, Tryd.ntmps15
  go_upto_region 2 with (first | ((with_reducible refine gate_callee (f := 26) rfl ?_); refine goesL_ (some 10) rfl rfl Tryd.func26 (by kernel_rfl) rfl #[.string a0, .bool true] rfl (by (try simp only [List.map_toArray, List.map_cons, List.map_nil]); first | done | rfl | (simp only [List.length_drop, List.length_take]; rfl)) ?_; (with_reducible refine (archivistref03_part.calls k a0 true t232 t233 t234 t235 _ A2.out).mono ?_); rintro e w4 ⟨rfl, hb⟩; refine ⟨_, rfl, ?_⟩; have n0_ := Aside0.mk (below_step (by repeat (first | (with_reducible first | exact HB.out | apply below_alloc | apply pw_below_drewN | apply below_drew1) | exact HB.out)) hb); clear HB; have HB := n0_; clear n0_; (try clear hb); (try clear hb2); (try clear hk); (try clear hi)))
  (try simp only [Act.put, List.setIfInBounds_toArray, List.set_cons_zero, List.set_cons_succ])
  go_cut [22] (fun v22 wc => ∃ (kq : Nat) (x22_2 : Bool), v22 = .bool x22_2 ∧ Aside0 (archivistref03_Bytes.j0 kq t232 t233 x22_2 = some (r1, r2)) ∧ Aside0 (kq ≤ k) ∧ Aside0 (Below w.heap.size w wc))
  case first =>
    have H := HC3.out
    clear HC3
    by_cases c5 : t235 = true
    · subst c5
      have H1 : (archivistref03_Bytes.j0 k t232 t233 (t234 != (a0.size : Int))) = some (r1, r2) := by rw [if_pos rfl] at H; exact H
      clear H
      have H := H1
      clear H1
      have H' := Aside0.mk H
      clear H
      go_wp2
      go_meet
      case rel => exact ⟨_, ((t234 != (a0.size : Int))), (by first | rfl | (simp; done) | (simp [*]; done)), H', ⟨by first | omega | exact Nat.le_refl _⟩, ⟨by repeat (first | (with_reducible first | exact HB.out | apply below_alloc | apply pw_below_drewN | apply below_drew1) | exact HB.out)⟩⟩
    · replace c5 := Bool.eq_false_iff.mpr c5
      subst c5
      have H1 : (archivistref03_Bytes.j0 k t232 t233 true) = some (r1, r2) := by rw [if_neg (show ¬ (false = true) by decide)] at H; exact H
      clear H
      have H := H1
      clear H1
      have H' := Aside0.mk H
      clear H
      go_wp2
      go_meet
      case rel => exact ⟨_, (true), (by first | rfl | (simp; done) | (simp [*]; done)), H', ⟨by first | omega | exact Nat.le_refl _⟩, ⟨by repeat (first | (with_reducible first | exact HB.out | apply below_alloc | apply pw_below_drewN | apply below_drew1) | exact HB.out)⟩⟩
  case rest =>
    clear HC3
    try clear c1
    try clear c2
    try clear p2
    try clear c5
    obtain ⟨kq, x22_2, rfl, HA, HJ2, HB⟩ := hcut
    cases kq with
    | zero => exact absurd HA.out (by simp [archivistref03_Bytes.j0])
    | succ kj2 =>
      have H := HA.out
      clear HA
      simp only [archivistref03_Bytes.j0] at H
      by_cases c6 : x22_2 = true
      · subst c6
        have H1 : (some (0, false)) = some (r1, r2) := by rw [if_pos rfl] at H; exact H
        clear H
        have H := H1
        clear H1
        simp only [Option.some.injEq, Prod.mk.injEq] at H
        obtain ⟨rfl, rfl⟩ := H
        go_wp2
        go_ret2
        exact ⟨by first | rfl | (simp [errW_none, errW_some] <;> rfl) | (simp [*, errW_none, errW_some] <;> rfl), by repeat (first | (with_reducible first | exact HB.out | apply below_alloc | apply pw_below_drewN | apply below_drew1) | exact HB.out)⟩
      · replace c6 := Bool.eq_false_iff.mpr c6
        subst c6
        have H1 : ((archivistref03_factors.f true).bind fun t236 => (if 0 ≤ t233 then (if t233 < (t236.length : Int) then ((archivistref02_Times.f kj2 t232 (rd t236 t233)).bind fun bt240 => (some (bt240.1, bt240.2))) else (none)) else (none))) = some (r1, r2) := by rw [if_neg (show ¬ (false = true) by decide)] at H; exact H
        clear H
        have H := H1
        clear H1
        replace H := Option.bind_eq_some_iff.mp H
        obtain ⟨t236, A70, H⟩ := H
        replace H : (if 0 ≤ t233 then (if t233 < (t236.length : Int) then ((archivistref02_Times.f kj2 t232 (rd t236 t233)).bind fun bt240 => (some (bt240.1, bt240.2))) else (none)) else (none)) = some (r1, r2) := H
        have A7 := Aside0.mk A70
        clear A70
        by_cases c8 : 0 ≤ t233
        · rw [if_pos c8] at H
          have c8b0 : decide (0 ≤ t233) = true := decide_eq_true c8
          clear c8
          by_cases c9 : t233 < (t236.length : Int)
          · rw [if_pos c9] at H
            have c9b0 : decide (t233 < (t236.length : Int)) = true := decide_eq_true c9
            clear c9
            replace H := Option.bind_eq_some_iff.mp H
            obtain ⟨⟨t240, t241⟩, A100, H⟩ := H
            replace H : (some (t240, t241)) = some (r1, r2) := H
            have A10 := Aside0.mk A100
            clear A100
            simp only [Option.some.injEq, Prod.mk.injEq] at H
            obtain ⟨rfl, rfl⟩ := H
            go_wp2_with (first | ((with_reducible refine gate_callee (f := 28) rfl ?_); refine goesL_ (some 24) rfl rfl Tryd.func28 (by kernel_rfl) rfl #[.bool true] rfl (by (try simp only [List.map_toArray, List.map_cons, List.map_nil]); first | done | rfl | (simp only [List.length_drop, List.length_take]; rfl)) ?_; (with_reducible refine (archivistref03_factors.calls true t236 _ A7.out).mono ?_); rintro e w11 ⟨v237, rfl, ho0, hb⟩; refine ⟨_, rfl, ?_⟩; have n0_ := Aside0.mk (Kd.R_lower ho0 (below_size (by repeat (first | (with_reducible first | exact HB.out | apply below_alloc | apply pw_below_drewN | apply below_drew1) | exact HB.out)))); have n1_ := Aside0.mk (below_step (by repeat (first | (with_reducible first | exact HB.out | apply below_alloc | apply pw_below_drewN | apply below_drew1) | exact HB.out)) hb); clear HB; have HO238 := n0_; have HB := n1_; clear n0_ n1_; (try clear hb); (try clear hb2); (try clear hk); (try clear hi); (try clear ho0); obtain ⟨Ao12, co12, eo12⟩ := Kd.R_slice HO238.out; subst eo12; have p239 : 0 ≤ (t233 : Int) := of_decide_eq_true (by first | (with_reducible assumption) | assumption); have q239 : t233 < (t236.length : Int) := of_decide_eq_true (by first | (with_reducible assumption) | assumption); obtain ⟨ad239, e239, hx239_0⟩ := Kd.at_int (Kd.R_reads' HO238.out).2.2 t233 p239 q239; cases e239; replace p239 := eq_true p239; replace q239 := eq_true q239) | ((with_reducible refine gate_callee (f := 27) rfl ?_); refine goesL_ (some 28) rfl rfl Tryd.func27 (by kernel_rfl) rfl #[.int .i64 t232, .int .i64 (rd t236 t233)] rfl (by (try simp only [List.map_toArray, List.map_cons, List.map_nil]); first | done | rfl | (simp only [List.length_drop, List.length_take]; rfl)) ?_; (with_reducible refine (archivistref02_Times.calls kj2 t232 (rd t236 t233) t240 t241 _ A10.out).mono ?_); rintro e w' ⟨rfl, ⟨nd, rfl⟩⟩; refine ⟨_, rfl, ?_⟩))
            go_ret2
            exact ⟨by first | rfl | (simp [errW_none, errW_some] <;> rfl) | (simp [*, errW_none, errW_some] <;> rfl), by repeat (first | (with_reducible first | exact HB.out | apply below_alloc | apply pw_below_drewN | apply below_drew1) | exact HB.out)⟩
          · rw [if_neg c9] at H
            exact absurd H (by simp)
        · rw [if_neg c8] at H
          exact absurd H (by simp)

/-! ### archivistlaw03_UnitReads: function 3 -/
mutual
def archivistlaw03_UnitReads.j2 : Nat → ByteArray → Bool → Option (Bool)
  | 0, _, _ => none
  | k + 1, x0, x11 => (unit_Duration.f k x0).bind fun bt251 => ((archivistref03_Duration.f k x0).bind fun bt253 => ((unit_Bytes.f x0).bind fun bt255 => ((archivistref03_Bytes.f k x0).bind fun bt257 => (if x11 = true then (if bt251.1 = bt253.1 then (if (bt251.2 == bt253.2) = true then (if bt255.1 = bt257.1 then (some (bt255.2 == bt257.2)) else (none)) else (none)) else (none)) else (none)))))
def archivistlaw03_UnitReads.l0 : Nat → ByteArray → List Int → Int → Bool → Bool → Int → Option (Bool)
  | 0, _, _, _, _, _, _ => none
  | k + 1, x0, x2, x3, x4, x11, x12 => if x12 < (x2.length : Int) then (archivistlaw03_UnitReads.j1 k x0 x2 x3 x4 x11 x12 (decide (x12 < 6))) else (archivistlaw03_UnitReads.j1 k x0 x2 x3 x4 x11 x12 false)
def archivistlaw03_UnitReads.j1 : Nat → ByteArray → List Int → Int → Bool → Bool → Int → Bool → Option (Bool)
  | 0, _, _, _, _, _, _, _ => none
  | k + 1, x0, x2, x3, x4, x11, x12, x33 => if x33 = true then (if x4 = true then (if 0 ≤ x12 then (if x12 < (x2.length : Int) then ((archivistlaw03_part.f k ((Int.tdiv (rd x2 x12) 12) % 256) (rd x2 x12)).bind fun t245 => (if x0.size + t245.size ≤ 9223372036854775807 then (archivistlaw03_UnitReads.l0 k (x0 ++ t245) x2 x3 x4 x11 (wrap64 (x12 + 1))) else (none))) else (none)) else (none)) else (if (Int.tmod x12 2) = 0 then (if 0 ≤ x12 then (if x12 < (x2.length : Int) then ((archivistlaw03_part.f k ((Int.tdiv (rd x2 x12) 12) % 256) (rd x2 x12)).bind fun t248 => (if x0.size + t248.size ≤ 9223372036854775807 then (archivistlaw03_UnitReads.l0 k (x0 ++ t248) x2 x3 x4 x11 (wrap64 (x12 + 1))) else (none))) else (none)) else (none)) else (if 0 ≤ x12 then (if x12 < (x2.length : Int) then ((archivistlaw03_part.f k x3 (rd x2 x12)).bind fun t250 => (if x0.size + t250.size ≤ 9223372036854775807 then (archivistlaw03_UnitReads.l0 k (x0 ++ t250) x2 x3 x4 x11 (wrap64 (x12 + 1))) else (none))) else (none)) else (none)))) else (archivistlaw03_UnitReads.j2 k x0 x11)
end
def archivistlaw03_UnitReads.f (k : Nat) (a0 : ByteArray) (a1 : Bool) (l2 : List Int) (a3 : Int) (a4 : Bool) : Option (Bool) := (archivistlaw03_examples.f k).bind fun t242 => (if t242 = true then (if a1 = true then (archivistlaw03_UnitReads.l0 k (⟨#[]⟩ : ByteArray) l2 a3 a4 t242 0) else (archivistlaw03_UnitReads.j2 k a0 t242)) else (none))
theorem archivistlaw03_UnitReads.mono_l : ∀ k, (∀ y0 y1, LeO (archivistlaw03_UnitReads.j2 k y0 y1) (archivistlaw03_UnitReads.j2 (k + 1) y0 y1)) ∧ (∀ y0 y1 y2 y3 y4 y5, LeO (archivistlaw03_UnitReads.l0 k y0 y1 y2 y3 y4 y5) (archivistlaw03_UnitReads.l0 (k + 1) y0 y1 y2 y3 y4 y5)) ∧ (∀ y0 y1 y2 y3 y4 y5 y6, LeO (archivistlaw03_UnitReads.j1 k y0 y1 y2 y3 y4 y5 y6) (archivistlaw03_UnitReads.j1 (k + 1) y0 y1 y2 y3 y4 y5 y6))
  | 0 => ⟨fun _ _ r h => by simp [archivistlaw03_UnitReads.j2] at h, fun _ _ _ _ _ _ r h => by simp [archivistlaw03_UnitReads.l0] at h, fun _ _ _ _ _ _ _ r h => by simp [archivistlaw03_UnitReads.j1] at h⟩
  | k + 1 => by
    obtain ⟨ih0, ih1, ih2⟩ := archivistlaw03_UnitReads.mono_l k
    refine ⟨?_, ?_, ?_⟩
    · intro y0 y1
      unfold archivistlaw03_UnitReads.j2
      repeat' first
      | (with_reducible exact ih0 _ _)
      | (with_reducible exact ih1 _ _ _ _ _ _)
      | (with_reducible exact ih2 _ _ _ _ _ _ _)
      | (with_reducible exact archivistlaw03_examples.mono _)
      | (with_reducible exact archivistlaw03_part.mono _ _ _)
      | (with_reducible exact archivistref03_Bytes.mono _ _)
      | (with_reducible exact archivistref03_Duration.mono _ _)
      | (with_reducible exact unit_Duration.mono _ _)
      | (with_reducible exact LeO.refl _)
      | (with_reducible exact LeO.none _)
      | (with_reducible refine LeO.ite ?_ ?_)
      | (with_reducible refine LeO.bind ?_ (fun _ => ?_))
      | exact ih0 _ _
      | exact ih1 _ _ _ _ _ _
      | exact ih2 _ _ _ _ _ _ _
      | exact archivistlaw03_examples.mono _
      | exact archivistlaw03_part.mono _ _ _
      | exact archivistref03_Bytes.mono _ _
      | exact archivistref03_Duration.mono _ _
      | exact unit_Duration.mono _ _
      | exact LeO.none _
      | refine LeO.ite ?_ ?_
      | refine LeO.bind ?_ (fun _ => ?_)
    · intro y0 y1 y2 y3 y4 y5
      unfold archivistlaw03_UnitReads.l0
      repeat' first
      | (with_reducible exact ih0 _ _)
      | (with_reducible exact ih1 _ _ _ _ _ _)
      | (with_reducible exact ih2 _ _ _ _ _ _ _)
      | (with_reducible exact archivistlaw03_examples.mono _)
      | (with_reducible exact archivistlaw03_part.mono _ _ _)
      | (with_reducible exact archivistref03_Bytes.mono _ _)
      | (with_reducible exact archivistref03_Duration.mono _ _)
      | (with_reducible exact unit_Duration.mono _ _)
      | (with_reducible exact LeO.refl _)
      | (with_reducible exact LeO.none _)
      | (with_reducible refine LeO.ite ?_ ?_)
      | (with_reducible refine LeO.bind ?_ (fun _ => ?_))
      | exact ih0 _ _
      | exact ih1 _ _ _ _ _ _
      | exact ih2 _ _ _ _ _ _ _
      | exact archivistlaw03_examples.mono _
      | exact archivistlaw03_part.mono _ _ _
      | exact archivistref03_Bytes.mono _ _
      | exact archivistref03_Duration.mono _ _
      | exact unit_Duration.mono _ _
      | exact LeO.none _
      | refine LeO.ite ?_ ?_
      | refine LeO.bind ?_ (fun _ => ?_)
    · intro y0 y1 y2 y3 y4 y5 y6
      unfold archivistlaw03_UnitReads.j1
      repeat' first
      | (with_reducible exact ih0 _ _)
      | (with_reducible exact ih1 _ _ _ _ _ _)
      | (with_reducible exact ih2 _ _ _ _ _ _ _)
      | (with_reducible exact archivistlaw03_examples.mono _)
      | (with_reducible exact archivistlaw03_part.mono _ _ _)
      | (with_reducible exact archivistref03_Bytes.mono _ _)
      | (with_reducible exact archivistref03_Duration.mono _ _)
      | (with_reducible exact unit_Duration.mono _ _)
      | (with_reducible exact LeO.refl _)
      | (with_reducible exact LeO.none _)
      | (with_reducible refine LeO.ite ?_ ?_)
      | (with_reducible refine LeO.bind ?_ (fun _ => ?_))
      | exact ih0 _ _
      | exact ih1 _ _ _ _ _ _
      | exact ih2 _ _ _ _ _ _ _
      | exact archivistlaw03_examples.mono _
      | exact archivistlaw03_part.mono _ _ _
      | exact archivistref03_Bytes.mono _ _
      | exact archivistref03_Duration.mono _ _
      | exact unit_Duration.mono _ _
      | exact LeO.none _
      | refine LeO.ite ?_ ?_
      | refine LeO.bind ?_ (fun _ => ?_)
theorem archivistlaw03_UnitReads.mono : ∀ a0 a1 a2 a3 a4 k, LeO (archivistlaw03_UnitReads.f k a0 a1 a2 a3 a4) (archivistlaw03_UnitReads.f (k + 1) a0 a1 a2 a3 a4) := by
  intro a0 a1 a2 a3 a4 k
  obtain ⟨ih0, ih1, ih2⟩ := archivistlaw03_UnitReads.mono_l k
  unfold archivistlaw03_UnitReads.f
  repeat' first
      | (with_reducible exact ih0 _ _)
      | (with_reducible exact ih1 _ _ _ _ _ _)
      | (with_reducible exact ih2 _ _ _ _ _ _ _)
      | (with_reducible exact archivistlaw03_examples.mono _)
      | (with_reducible exact archivistlaw03_part.mono _ _ _)
      | (with_reducible exact archivistref03_Bytes.mono _ _)
      | (with_reducible exact archivistref03_Duration.mono _ _)
      | (with_reducible exact unit_Duration.mono _ _)
      | (with_reducible exact LeO.refl _)
      | (with_reducible exact LeO.none _)
      | (with_reducible refine LeO.ite ?_ ?_)
      | (with_reducible refine LeO.bind ?_ (fun _ => ?_))
      | exact ih0 _ _
      | exact ih1 _ _ _ _ _ _
      | exact ih2 _ _ _ _ _ _ _
      | exact archivistlaw03_examples.mono _
      | exact archivistlaw03_part.mono _ _ _
      | exact archivistref03_Bytes.mono _ _
      | exact archivistref03_Duration.mono _ _
      | exact unit_Duration.mono _ _
      | exact LeO.none _
      | refine LeO.ite ?_ ?_
      | refine LeO.bind ?_ (fun _ => ?_)
set_option maxHeartbeats 8000000 in
set_option maxRecDepth 100000 in
theorem archivistlaw03_UnitReads.calls (k : Nat) (a0 : ByteArray) (a1 : Bool) (A2 : Option Addr) (c2 : Nat) (l2 : List Int) (a3 : Int) (a4 : Bool) (r : Bool) (w : World) (hr2 : Kd.C (Kd.int .u8) w A2 l2.length l2) (hc2 : l2.length ≤ c2) (h : archivistlaw03_UnitReads.f k a0 a1 l2 a3 a4 = some r) (hLd : Laid w) :
    Calls Tryd.prog 3 #[.string a0, .bool a1, .slice A2 l2.length c2, .int .i64 a3, .bool a4] w fun e w' => e = .returned (.bool r) ∧ Below w.heap.size w w' := by
  have HR2 := Aside0.mk hr2
  have HC2 := Aside0.mk hc2
  clear hr2 hc2
  have HLd := Aside0.mk hLd
  clear hLd
  have HB := Aside0.mk (Below.refl w.heap.size w)
  have H : ((archivistlaw03_examples.f k).bind fun t242 => (if t242 = true then (if a1 = true then (archivistlaw03_UnitReads.l0 k (⟨#[]⟩ : ByteArray) l2 a3 a4 t242 0) else (archivistlaw03_UnitReads.j2 k a0 t242)) else (none))) = some r := h
  clear h
  replace H := Option.bind_eq_some_iff.mp H
  obtain ⟨t242, A60, H⟩ := H
  replace H : (if t242 = true then (if a1 = true then (archivistlaw03_UnitReads.l0 k (⟨#[]⟩ : ByteArray) l2 a3 a4 t242 0) else (archivistlaw03_UnitReads.j2 k a0 t242)) else (none)) = some r := H
  have A6 := Aside0.mk A60
  clear A60
  by_cases c7 : t242 = true
  · subst c7
    have H1 : (if a1 = true then (archivistlaw03_UnitReads.l0 k (⟨#[]⟩ : ByteArray) l2 a3 a4 true 0) else (archivistlaw03_UnitReads.j2 k a0 true)) = some r := by rw [if_pos rfl] at H; exact H
    clear H
    have H := H1
    clear H1
    have HC8 := Aside0.mk H
    clear H
    go_enter Tryd.func3, Tryd.ntmps3
    go_upto_if 25 with (first | ((with_reducible refine gate_callee (f := 10) rfl ?_); refine goesL_ (some 22) rfl rfl Tryd.func10 (by kernel_rfl) rfl #[] rfl (by (try simp only [List.map_toArray, List.map_cons, List.map_nil]); first | done | rfl | (simp only [List.length_drop, List.length_take]; rfl)) ?_; (with_reducible refine (archivistlaw03_examples.calls k  true _ A6.out ?sideLd).mono ?_); (case sideLd => exact laid_below HLd.out (by repeat (first | (with_reducible first | exact HB.out | apply below_alloc | apply pw_below_drewN | apply below_drew1) | exact HB.out))); rintro e w9 ⟨rfl, hb⟩; refine ⟨_, rfl, ?_⟩; have n0_ := Aside0.mk (below_step (by repeat (first | (with_reducible first | exact HB.out | apply below_alloc | apply pw_below_drewN | apply below_drew1) | exact HB.out)) hb); clear HB; have HB := n0_; clear n0_; (try clear hb); (try clear hb2); (try clear hk); (try clear hi)))
    (try simp only [Act.put, List.setIfInBounds_toArray, List.set_cons_zero, List.set_cons_succ])
    go_cut [0] (fun v0 wc => ∃ (kq : Nat) (x0_7 : ByteArray), v0 = .string x0_7 ∧ Aside0 (archivistlaw03_UnitReads.j2 kq x0_7 true = some r) ∧ Aside0 (kq ≤ k) ∧ Aside0 (Below w.heap.size w wc))
    case first =>
      have H := HC8.out
      clear HC8
      by_cases c10 : a1 = true
      · subst c10
        have H1 : (archivistlaw03_UnitReads.l0 k (⟨#[]⟩ : ByteArray) l2 a3 a4 true 0) = some r := by rw [if_pos rfl] at H; exact H
        clear H
        have H := H1
        clear H1
        have H' := Aside0.mk H
        clear H
        go_wp2
        go_loopg [0, 12] k (fun kq v0 v12 w' => ∃ (x0_1 : ByteArray) (x12_1 : Int), v0 = .string x0_1 ∧ v12 = .int .i64 x12_1 ∧ Aside0 (archivistlaw03_UnitReads.l0 kq x0_1 l2 a3 a4 true x12_1 = some r) ∧ Aside0 (kq ≤ k) ∧ Aside0 (Below w.heap.size w w'))
        case atStart => exact ⟨((⟨#[]⟩ : ByteArray)), (0), (by first | rfl | (simp; done) | (simp [*]; done)), (by first | rfl | (simp; done) | (simp [*]; done)), H', ⟨Nat.le_refl _⟩, ⟨by repeat (first | (with_reducible first | exact HB.out | apply below_alloc | apply pw_below_drewN | apply below_drew1) | exact HB.out)⟩⟩
        case round =>
          clear H'
          try clear c1
          try clear c2
          try clear p2
          try clear c3
          try clear c7
          try clear c10
          obtain ⟨x0_1, x12_1, rfl, rfl, HA, HK1, HB⟩ := hrel
          cases gk with
          | zero => exact absurd HA.out (by simp [archivistlaw03_UnitReads.l0])
          | succ k1 =>
            have H := HA.out
            clear HA
            simp only [archivistlaw03_UnitReads.l0] at H
            have HC11 := Aside0.mk H
            clear H
            go_upto_region 7 with (fail)
            go_cut [33] (fun v33 wc => ∃ (kq : Nat) (x33_10 : Bool), v33 = .bool x33_10 ∧ Aside0 (archivistlaw03_UnitReads.j1 kq x0_1 l2 a3 a4 true x12_1 x33_10 = some r) ∧ Aside0 (kq ≤ k1) ∧ Aside0 (Below w.heap.size w wc))
            case first =>
              have H := HC11.out
              clear HC11
              by_cases c12 : x12_1 < (l2.length : Int)
              · rw [if_pos c12] at H
                have c12b0 : decide (x12_1 < (l2.length : Int)) = true := decide_eq_true c12
                clear c12
                (first | rw [c12b0] | (simp only [i64_w, i32_w]; rw [c12b0]) | skip)
                have H' := Aside0.mk H
                clear H
                go_wp2
                go_meet
                case rel => exact ⟨_, (decide (x12_1 < 6)), (by first | rfl | (simp; done) | (simp [*]; done)), H', ⟨by have := HK1.out; first | omega | exact Nat.le_refl _⟩, ⟨by repeat (first | (with_reducible first | exact HB.out | apply below_alloc | apply pw_below_drewN | apply below_drew1) | exact HB.out)⟩⟩
              · rw [if_neg c12] at H
                have c12b0 : decide (x12_1 < (l2.length : Int)) = false := decide_eq_false c12
                clear c12
                (first | rw [c12b0] | (simp only [i64_w, i32_w]; rw [c12b0]) | skip)
                have H' := Aside0.mk H
                clear H
                go_wp2
                go_meet
                case rel => exact ⟨_, (false), (by first | rfl | (simp; done) | (simp [*]; done)), H', ⟨by have := HK1.out; first | omega | exact Nat.le_refl _⟩, ⟨by repeat (first | (with_reducible first | exact HB.out | apply below_alloc | apply pw_below_drewN | apply below_drew1) | exact HB.out)⟩⟩
            case rest =>
              clear HC11
              try clear c1
              try clear c2
              try clear p2
              try clear c3
              try clear c7
              try clear c10
              try clear c12
              try clear c12b0
              try clear p2
              obtain ⟨kq, x33_10, rfl, HA, HJ10, HB⟩ := hcut
              cases kq with
              | zero => exact absurd HA.out (by simp [archivistlaw03_UnitReads.j1])
              | succ kj10 =>
                have H := HA.out
                clear HA
                simp only [archivistlaw03_UnitReads.j1] at H
                by_cases c13 : x33_10 = true
                · subst c13
                  have H1 : (if a4 = true then (if 0 ≤ x12_1 then (if x12_1 < (l2.length : Int) then ((archivistlaw03_part.f kj10 ((Int.tdiv (rd l2 x12_1) 12) % 256) (rd l2 x12_1)).bind fun t245 => (if x0_1.size + t245.size ≤ 9223372036854775807 then (archivistlaw03_UnitReads.l0 kj10 (x0_1 ++ t245) l2 a3 a4 true (wrap64 (x12_1 + 1))) else (none))) else (none)) else (none)) else (if (Int.tmod x12_1 2) = 0 then (if 0 ≤ x12_1 then (if x12_1 < (l2.length : Int) then ((archivistlaw03_part.f kj10 ((Int.tdiv (rd l2 x12_1) 12) % 256) (rd l2 x12_1)).bind fun t248 => (if x0_1.size + t248.size ≤ 9223372036854775807 then (archivistlaw03_UnitReads.l0 kj10 (x0_1 ++ t248) l2 a3 a4 true (wrap64 (x12_1 + 1))) else (none))) else (none)) else (none)) else (if 0 ≤ x12_1 then (if x12_1 < (l2.length : Int) then ((archivistlaw03_part.f kj10 a3 (rd l2 x12_1)).bind fun t250 => (if x0_1.size + t250.size ≤ 9223372036854775807 then (archivistlaw03_UnitReads.l0 kj10 (x0_1 ++ t250) l2 a3 a4 true (wrap64 (x12_1 + 1))) else (none))) else (none)) else (none)))) = some r := by rw [if_pos rfl] at H; exact H
                  clear H
                  have H := H1
                  clear H1
                  by_cases c14 : a4 = true
                  · subst c14
                    have H1 : (if 0 ≤ x12_1 then (if x12_1 < (l2.length : Int) then ((archivistlaw03_part.f kj10 ((Int.tdiv (rd l2 x12_1) 12) % 256) (rd l2 x12_1)).bind fun t245 => (if x0_1.size + t245.size ≤ 9223372036854775807 then (archivistlaw03_UnitReads.l0 kj10 (x0_1 ++ t245) l2 a3 true true (wrap64 (x12_1 + 1))) else (none))) else (none)) else (none)) = some r := by rw [if_pos rfl] at H; exact H
                    clear H
                    have H := H1
                    clear H1
                    by_cases c15 : 0 ≤ x12_1
                    · rw [if_pos c15] at H
                      have c15b0 : decide (0 ≤ x12_1) = true := decide_eq_true c15
                      clear c15
                      by_cases c16 : x12_1 < (l2.length : Int)
                      · rw [if_pos c16] at H
                        have c16b0 : decide (x12_1 < (l2.length : Int)) = true := decide_eq_true c16
                        clear c16
                        replace H := Option.bind_eq_some_iff.mp H
                        obtain ⟨t245, A170, H⟩ := H
                        replace H : (if x0_1.size + t245.size ≤ 9223372036854775807 then (archivistlaw03_UnitReads.l0 kj10 (x0_1 ++ t245) l2 a3 true true (wrap64 (x12_1 + 1))) else (none)) = some r := H
                        have A17 := Aside0.mk A170
                        clear A170
                        by_cases c18 : x0_1.size + t245.size ≤ 9223372036854775807
                        · rw [if_pos c18] at H
                          have c18b0 := eq_true c18
                          have c18b1 : decide (x0_1.size + t245.size ≤ 9223372036854775807) = true := decide_eq_true c18
                          try have c18b2 : (9223372036854775807 < x0_1.size + t245.size) = False := eq_false (Nat.not_lt.2 c18)
                          have H' := Aside0.mk H
                          clear H
                          have p243 : 0 ≤ (x12_1 : Int) := of_decide_eq_true (by first | (with_reducible assumption) | assumption)
                          have q243 : x12_1 < (l2.length : Int) := of_decide_eq_true (by first | (with_reducible assumption) | assumption)
                          obtain ⟨ad243, e243, hx243_0⟩ := Kd.at_int HR2.out x12_1 p243 q243
                          cases e243
                          replace hx243_0 := (HB.out.cell (World.block_lt_of_cell? w _ hx243_0)).trans hx243_0
                          replace p243 := eq_true p243
                          replace q243 := eq_true q243
                          have p244 : 0 ≤ (x12_1 : Int) := of_decide_eq_true (by first | (with_reducible assumption) | assumption)
                          have q244 : x12_1 < (l2.length : Int) := of_decide_eq_true (by first | (with_reducible assumption) | assumption)
                          obtain ⟨ad244, e244, hx244_0⟩ := Kd.at_int HR2.out x12_1 p244 q244
                          obtain rfl : ad243 = ad244 := (by injection e244)
                          replace hx244_0 := (HB.out.cell (World.block_lt_of_cell? w _ hx244_0)).trans hx244_0
                          replace p244 := eq_true p244
                          replace q244 := eq_true q244
                          go_wp2_with (first | ((with_reducible refine gate_callee (f := 11) rfl ?_); refine goesL_ (some 55) rfl rfl Tryd.func11 (by kernel_rfl) rfl #[.int .i64 ((Int.tdiv (rd l2 x12_1) 12) % 256), .int .u8 (rd l2 x12_1)] rfl (by (try simp only [List.map_toArray, List.map_cons, List.map_nil]); first | done | rfl | (simp only [List.length_drop, List.length_take]; rfl)) ?_; (with_reducible refine (archivistlaw03_part.calls kj10 ((Int.tdiv (rd l2 x12_1) 12) % 256) (rd l2 x12_1) t245 _ A17.out).mono ?_); rintro e w19 ⟨rfl, hb⟩; refine ⟨_, rfl, ?_⟩; have n0_ := Aside0.mk (below_step (by repeat (first | (with_reducible first | exact HB.out | apply below_alloc | apply pw_below_drewN | apply below_drew1) | exact HB.out)) hb); clear HB; have HB := n0_; clear n0_; (try clear hb); (try clear hb2); (try clear hk); (try clear hi)))
                          go_roundg kj10
                          case measure => have := HK1.out; have := HJ10.out; omega
                          case rel => exact ⟨(x0_1 ++ t245), (wrap64 (x12_1 + 1)), (by first | rfl | (simp; done) | (simp [*]; done)), (by first | rfl | (simp; done) | (simp [*]; done)), H', ⟨by have := HK1.out; have := HJ10.out; omega⟩, ⟨by repeat (first | (with_reducible first | exact HB.out | apply below_alloc | apply pw_below_drewN | apply below_drew1) | exact HB.out)⟩⟩
                        · rw [if_neg c18] at H
                          exact absurd H (by simp)
                      · rw [if_neg c16] at H
                        exact absurd H (by simp)
                    · rw [if_neg c15] at H
                      exact absurd H (by simp)
                  · replace c14 := Bool.eq_false_iff.mpr c14
                    subst c14
                    have H1 : (if (Int.tmod x12_1 2) = 0 then (if 0 ≤ x12_1 then (if x12_1 < (l2.length : Int) then ((archivistlaw03_part.f kj10 ((Int.tdiv (rd l2 x12_1) 12) % 256) (rd l2 x12_1)).bind fun t248 => (if x0_1.size + t248.size ≤ 9223372036854775807 then (archivistlaw03_UnitReads.l0 kj10 (x0_1 ++ t248) l2 a3 false true (wrap64 (x12_1 + 1))) else (none))) else (none)) else (none)) else (if 0 ≤ x12_1 then (if x12_1 < (l2.length : Int) then ((archivistlaw03_part.f kj10 a3 (rd l2 x12_1)).bind fun t250 => (if x0_1.size + t250.size ≤ 9223372036854775807 then (archivistlaw03_UnitReads.l0 kj10 (x0_1 ++ t250) l2 a3 false true (wrap64 (x12_1 + 1))) else (none))) else (none)) else (none))) = some r := by rw [if_neg (show ¬ (false = true) by decide)] at H; exact H
                    clear H
                    have H := H1
                    clear H1
                    by_cases c20 : (Int.tmod x12_1 2) = 0
                    · rw [if_pos c20] at H
                      have c20b0 : ((Int.tmod x12_1 2) == 0) = true := beq_iff_eq.mpr c20
                      have c20b1 : ((Int.tmod x12_1 2) != 0) = false := bne_eq_false_iff_eq.mpr c20
                      clear c20
                      by_cases c21 : 0 ≤ x12_1
                      · rw [if_pos c21] at H
                        have c21b0 : decide (0 ≤ x12_1) = true := decide_eq_true c21
                        clear c21
                        by_cases c22 : x12_1 < (l2.length : Int)
                        · rw [if_pos c22] at H
                          have c22b0 : decide (x12_1 < (l2.length : Int)) = true := decide_eq_true c22
                          clear c22
                          replace H := Option.bind_eq_some_iff.mp H
                          obtain ⟨t248, A230, H⟩ := H
                          replace H : (if x0_1.size + t248.size ≤ 9223372036854775807 then (archivistlaw03_UnitReads.l0 kj10 (x0_1 ++ t248) l2 a3 false true (wrap64 (x12_1 + 1))) else (none)) = some r := H
                          have A23 := Aside0.mk A230
                          clear A230
                          by_cases c24 : x0_1.size + t248.size ≤ 9223372036854775807
                          · rw [if_pos c24] at H
                            have c24b0 := eq_true c24
                            have c24b1 : decide (x0_1.size + t248.size ≤ 9223372036854775807) = true := decide_eq_true c24
                            try have c24b2 : (9223372036854775807 < x0_1.size + t248.size) = False := eq_false (Nat.not_lt.2 c24)
                            have H' := Aside0.mk H
                            clear H
                            have p246 : 0 ≤ (x12_1 : Int) := of_decide_eq_true (by first | (with_reducible assumption) | assumption)
                            have q246 : x12_1 < (l2.length : Int) := of_decide_eq_true (by first | (with_reducible assumption) | assumption)
                            obtain ⟨ad246, e246, hx246_0⟩ := Kd.at_int HR2.out x12_1 p246 q246
                            cases e246
                            replace hx246_0 := (HB.out.cell (World.block_lt_of_cell? w _ hx246_0)).trans hx246_0
                            replace p246 := eq_true p246
                            replace q246 := eq_true q246
                            have p247 : 0 ≤ (x12_1 : Int) := of_decide_eq_true (by first | (with_reducible assumption) | assumption)
                            have q247 : x12_1 < (l2.length : Int) := of_decide_eq_true (by first | (with_reducible assumption) | assumption)
                            obtain ⟨ad247, e247, hx247_0⟩ := Kd.at_int HR2.out x12_1 p247 q247
                            obtain rfl : ad246 = ad247 := (by injection e247)
                            replace hx247_0 := (HB.out.cell (World.block_lt_of_cell? w _ hx247_0)).trans hx247_0
                            replace p247 := eq_true p247
                            replace q247 := eq_true q247
                            go_wp2_with (first | ((with_reducible refine gate_callee (f := 11) rfl ?_); refine goesL_ (some 55) rfl rfl Tryd.func11 (by kernel_rfl) rfl #[.int .i64 ((Int.tdiv (rd l2 x12_1) 12) % 256), .int .u8 (rd l2 x12_1)] rfl (by (try simp only [List.map_toArray, List.map_cons, List.map_nil]); first | done | rfl | (simp only [List.length_drop, List.length_take]; rfl)) ?_; (with_reducible refine (archivistlaw03_part.calls kj10 ((Int.tdiv (rd l2 x12_1) 12) % 256) (rd l2 x12_1) t248 _ A23.out).mono ?_); rintro e w25 ⟨rfl, hb⟩; refine ⟨_, rfl, ?_⟩; have n0_ := Aside0.mk (below_step (by repeat (first | (with_reducible first | exact HB.out | apply below_alloc | apply pw_below_drewN | apply below_drew1) | exact HB.out)) hb); clear HB; have HB := n0_; clear n0_; (try clear hb); (try clear hb2); (try clear hk); (try clear hi)))
                            go_roundg kj10
                            case measure => have := HK1.out; have := HJ10.out; omega
                            case rel => exact ⟨(x0_1 ++ t248), (wrap64 (x12_1 + 1)), (by first | rfl | (simp; done) | (simp [*]; done)), (by first | rfl | (simp; done) | (simp [*]; done)), H', ⟨by have := HK1.out; have := HJ10.out; omega⟩, ⟨by repeat (first | (with_reducible first | exact HB.out | apply below_alloc | apply pw_below_drewN | apply below_drew1) | exact HB.out)⟩⟩
                          · rw [if_neg c24] at H
                            exact absurd H (by simp)
                        · rw [if_neg c22] at H
                          exact absurd H (by simp)
                      · rw [if_neg c21] at H
                        exact absurd H (by simp)
                    · rw [if_neg c20] at H
                      have c20b0 : ((Int.tmod x12_1 2) == 0) = false := beq_eq_false_iff_ne.mpr c20
                      have c20b1 : ((Int.tmod x12_1 2) != 0) = true := bne_iff_ne.mpr c20
                      by_cases c26 : 0 ≤ x12_1
                      · rw [if_pos c26] at H
                        have c26b0 : decide (0 ≤ x12_1) = true := decide_eq_true c26
                        clear c26
                        by_cases c27 : x12_1 < (l2.length : Int)
                        · rw [if_pos c27] at H
                          have c27b0 : decide (x12_1 < (l2.length : Int)) = true := decide_eq_true c27
                          clear c27
                          replace H := Option.bind_eq_some_iff.mp H
                          obtain ⟨t250, A280, H⟩ := H
                          replace H : (if x0_1.size + t250.size ≤ 9223372036854775807 then (archivistlaw03_UnitReads.l0 kj10 (x0_1 ++ t250) l2 a3 false true (wrap64 (x12_1 + 1))) else (none)) = some r := H
                          have A28 := Aside0.mk A280
                          clear A280
                          by_cases c29 : x0_1.size + t250.size ≤ 9223372036854775807
                          · rw [if_pos c29] at H
                            have c29b0 := eq_true c29
                            have c29b1 : decide (x0_1.size + t250.size ≤ 9223372036854775807) = true := decide_eq_true c29
                            try have c29b2 : (9223372036854775807 < x0_1.size + t250.size) = False := eq_false (Nat.not_lt.2 c29)
                            have H' := Aside0.mk H
                            clear H
                            have p249 : 0 ≤ (x12_1 : Int) := of_decide_eq_true (by first | (with_reducible assumption) | assumption)
                            have q249 : x12_1 < (l2.length : Int) := of_decide_eq_true (by first | (with_reducible assumption) | assumption)
                            obtain ⟨ad249, e249, hx249_0⟩ := Kd.at_int HR2.out x12_1 p249 q249
                            cases e249
                            replace hx249_0 := (HB.out.cell (World.block_lt_of_cell? w _ hx249_0)).trans hx249_0
                            replace p249 := eq_true p249
                            replace q249 := eq_true q249
                            go_wp2_with (first | ((with_reducible refine gate_callee (f := 11) rfl ?_); refine goesL_ (some 55) rfl rfl Tryd.func11 (by kernel_rfl) rfl #[.int .i64 a3, .int .u8 (rd l2 x12_1)] rfl (by (try simp only [List.map_toArray, List.map_cons, List.map_nil]); first | done | rfl | (simp only [List.length_drop, List.length_take]; rfl)) ?_; (with_reducible refine (archivistlaw03_part.calls kj10 a3 (rd l2 x12_1) t250 _ A28.out).mono ?_); rintro e w30 ⟨rfl, hb⟩; refine ⟨_, rfl, ?_⟩; have n0_ := Aside0.mk (below_step (by repeat (first | (with_reducible first | exact HB.out | apply below_alloc | apply pw_below_drewN | apply below_drew1) | exact HB.out)) hb); clear HB; have HB := n0_; clear n0_; (try clear hb); (try clear hb2); (try clear hk); (try clear hi)))
                            go_roundg kj10
                            case measure => have := HK1.out; have := HJ10.out; omega
                            case rel => exact ⟨(x0_1 ++ t250), (wrap64 (x12_1 + 1)), (by first | rfl | (simp; done) | (simp [*]; done)), (by first | rfl | (simp; done) | (simp [*]; done)), H', ⟨by have := HK1.out; have := HJ10.out; omega⟩, ⟨by repeat (first | (with_reducible first | exact HB.out | apply below_alloc | apply pw_below_drewN | apply below_drew1) | exact HB.out)⟩⟩
                          · rw [if_neg c29] at H
                            exact absurd H (by simp)
                        · rw [if_neg c27] at H
                          exact absurd H (by simp)
                      · rw [if_neg c26] at H
                        exact absurd H (by simp)
                · replace c13 := Bool.eq_false_iff.mpr c13
                  subst c13
                  have H1 : (archivistlaw03_UnitReads.j2 kj10 x0_1 true) = some r := by rw [if_neg (show ¬ (false = true) by decide)] at H; exact H
                  clear H
                  have H := H1
                  clear H1
                  have H' := Aside0.mk H
                  clear H
                  go_wp2
                  go_meet
                  case rel => exact ⟨_, (x0_1), (by first | rfl | (simp; done) | (simp [*]; done)), H', ⟨by have := HK1.out; have := HJ10.out; first | omega | exact Nat.le_refl _⟩, ⟨by repeat (first | (with_reducible first | exact HB.out | apply below_alloc | apply pw_below_drewN | apply below_drew1) | exact HB.out)⟩⟩
      · replace c10 := Bool.eq_false_iff.mpr c10
        subst c10
        have H1 : (archivistlaw03_UnitReads.j2 k a0 true) = some r := by rw [if_neg (show ¬ (false = true) by decide)] at H; exact H
        clear H
        have H := H1
        clear H1
        have H' := Aside0.mk H
        clear H
        go_wp2
        go_meet
        case rel => exact ⟨_, (a0), (by first | rfl | (simp; done) | (simp [*]; done)), H', ⟨by first | omega | exact Nat.le_refl _⟩, ⟨by repeat (first | (with_reducible first | exact HB.out | apply below_alloc | apply pw_below_drewN | apply below_drew1) | exact HB.out)⟩⟩
    case rest =>
      clear HC8
      try clear c1
      try clear c2
      try clear p2
      try clear q2
      try clear hx2
      try clear c3
      try clear p6
      try clear c7
      try clear c10
      try clear c11
      try clear c12
      try clear c12b0
      try clear c13
      try clear c14
      try clear c15
      try clear c15b0
      try clear c16
      try clear c16b0
      try clear c18
      try clear c18b0
      try clear c18b1
      try clear c18b2
      try clear c20
      try clear c20b0
      try clear c20b1
      try clear c21
      try clear c21b0
      try clear c22
      try clear c22b0
      try clear c24
      try clear c24b0
      try clear c24b1
      try clear c24b2
      try clear p24
      try clear q24
      try clear hx24
      try clear c26
      try clear c26b0
      try clear c27
      try clear c27b0
      try clear c29
      try clear c29b0
      try clear c29b1
      try clear c29b2
      try clear hx243_0
      try clear hx244_0
      try clear hx246_0
      try clear hx247_0
      try clear hx249_0
      try clear p2
      try clear p243
      try clear p244
      try clear p246
      try clear p247
      try clear p249
      try clear q243
      try clear q244
      try clear q246
      try clear q247
      try clear q249
      obtain ⟨kq, x0_7, rfl, HA, HJ7, HB⟩ := hcut
      cases kq with
      | zero => exact absurd HA.out (by simp [archivistlaw03_UnitReads.j2])
      | succ kj7 =>
        have H := HA.out
        clear HA
        simp only [archivistlaw03_UnitReads.j2] at H
        replace H := Option.bind_eq_some_iff.mp H
        obtain ⟨⟨t251, t252⟩, A310, H⟩ := H
        replace H : ((archivistref03_Duration.f kj7 x0_7).bind fun bt253 => ((unit_Bytes.f x0_7).bind fun bt255 => ((archivistref03_Bytes.f kj7 x0_7).bind fun bt257 => (if true = true then (if t251 = bt253.1 then (if (t252 == bt253.2) = true then (if bt255.1 = bt257.1 then (some (bt255.2 == bt257.2)) else (none)) else (none)) else (none)) else (none))))) = some r := H
        have A31 := Aside0.mk A310
        clear A310
        replace H := Option.bind_eq_some_iff.mp H
        obtain ⟨⟨t253, t254⟩, A320, H⟩ := H
        replace H : ((unit_Bytes.f x0_7).bind fun bt255 => ((archivistref03_Bytes.f kj7 x0_7).bind fun bt257 => (if true = true then (if t251 = t253 then (if (t252 == t254) = true then (if bt255.1 = bt257.1 then (some (bt255.2 == bt257.2)) else (none)) else (none)) else (none)) else (none)))) = some r := H
        have A32 := Aside0.mk A320
        clear A320
        replace H := Option.bind_eq_some_iff.mp H
        obtain ⟨⟨t255, t256⟩, A330, H⟩ := H
        replace H : ((archivistref03_Bytes.f kj7 x0_7).bind fun bt257 => (if true = true then (if t251 = t253 then (if (t252 == t254) = true then (if t255 = bt257.1 then (some (t256 == bt257.2)) else (none)) else (none)) else (none)) else (none))) = some r := H
        have A33 := Aside0.mk A330
        clear A330
        replace H := Option.bind_eq_some_iff.mp H
        obtain ⟨⟨t257, t258⟩, A340, H⟩ := H
        replace H : (if true = true then (if t251 = t253 then (if (t252 == t254) = true then (if t255 = t257 then (some (t256 == t258)) else (none)) else (none)) else (none)) else (none)) = some r := H
        have A34 := Aside0.mk A340
        clear A340
        by_cases c35 : true = true
        · clear c35
          have H1 : (if t251 = t253 then (if (t252 == t254) = true then (if t255 = t257 then (some (t256 == t258)) else (none)) else (none)) else (none)) = some r := by first | (rw [if_pos rfl] at H; exact H) | (rw [if_pos trivial] at H; exact H)
          clear H
          have H := H1
          clear H1
          by_cases c36 : t251 = t253
          · rw [if_pos c36] at H
            have c36b0 : (t251 == t253) = true := beq_iff_eq.mpr c36
            have c36b1 : (t251 != t253) = false := bne_eq_false_iff_eq.mpr c36
            clear c36
            by_cases c37 : (t252 == t254) = true
            · rw [if_pos c37] at H
              have c37b0 : (t252 == t254) = true := c37
              (try (have c37b1 : decide (t252 = t254) = true := by simpa using c37))
              (try (have c37b2 : (t252 == t254) = true := by simpa using c37))
              clear c37
              by_cases c38 : t255 = t257
              · rw [if_pos c38] at H
                have c38b0 : (t255 == t257) = true := beq_iff_eq.mpr c38
                have c38b1 : (t255 != t257) = false := bne_eq_false_iff_eq.mpr c38
                clear c38
                obtain rfl := Option.some.inj H
                go_wp2_with (first | ((with_reducible refine gate_callee (f := 12) rfl ?_); refine goesL_ (some 59) rfl rfl Tryd.func12 (by kernel_rfl) rfl #[.string x0_7] rfl (by (try simp only [List.map_toArray, List.map_cons, List.map_nil]); first | done | rfl | (simp only [List.length_drop, List.length_take]; rfl)) ?_; (with_reducible refine (unit_Duration.calls kj7 x0_7 t251 t252 _ A31.out ?sideLd).mono ?_); (case sideLd => exact laid_below HLd.out (by repeat (first | (with_reducible first | exact HB.out | apply below_alloc | apply pw_below_drewN | apply below_drew1) | exact HB.out))); rintro e w39 ⟨rfl, hb⟩; refine ⟨_, rfl, ?_⟩; have n0_ := Aside0.mk (below_step (by repeat (first | (with_reducible first | exact HB.out | apply below_alloc | apply pw_below_drewN | apply below_drew1) | exact HB.out)) hb); clear HB; have HB := n0_; clear n0_; (try clear hb); (try clear hb2); (try clear hk); (try clear hi)) | ((with_reducible refine gate_callee (f := 13) rfl ?_); refine goesL_ (some 64) rfl rfl Tryd.func13 (by kernel_rfl) rfl #[.string x0_7] rfl (by (try simp only [List.map_toArray, List.map_cons, List.map_nil]); first | done | rfl | (simp only [List.length_drop, List.length_take]; rfl)) ?_; (with_reducible refine (archivistref03_Duration.calls kj7 x0_7 t253 t254 _ A32.out).mono ?_); rintro e w40 ⟨rfl, hb⟩; refine ⟨_, rfl, ?_⟩; have n0_ := Aside0.mk (below_step (by repeat (first | (with_reducible first | exact HB.out | apply below_alloc | apply pw_below_drewN | apply below_drew1) | exact HB.out)) hb); clear HB; have HB := n0_; clear n0_; (try clear hb); (try clear hb2); (try clear hk); (try clear hi)) | ((with_reducible refine gate_callee (f := 14) rfl ?_); refine goesL_ (some 69) rfl rfl Tryd.func14 (by kernel_rfl) rfl #[.string x0_7] rfl (by (try simp only [List.map_toArray, List.map_cons, List.map_nil]); first | done | rfl | (simp only [List.length_drop, List.length_take]; rfl)) ?_; (with_reducible refine (unit_Bytes.calls x0_7 t255 t256 _ A33.out ?sideLd).mono ?_); (case sideLd => exact laid_below HLd.out (by repeat (first | (with_reducible first | exact HB.out | apply below_alloc | apply pw_below_drewN | apply below_drew1) | exact HB.out))); rintro e w41 ⟨rfl, hb⟩; refine ⟨_, rfl, ?_⟩; have n0_ := Aside0.mk (below_step (by repeat (first | (with_reducible first | exact HB.out | apply below_alloc | apply pw_below_drewN | apply below_drew1) | exact HB.out)) hb); clear HB; have HB := n0_; clear n0_; (try clear hb); (try clear hb2); (try clear hk); (try clear hi)) | ((with_reducible refine gate_callee (f := 15) rfl ?_); refine goesL_ (some 74) rfl rfl Tryd.func15 (by kernel_rfl) rfl #[.string x0_7] rfl (by (try simp only [List.map_toArray, List.map_cons, List.map_nil]); first | done | rfl | (simp only [List.length_drop, List.length_take]; rfl)) ?_; (with_reducible refine (archivistref03_Bytes.calls kj7 x0_7 t257 t258 _ A34.out).mono ?_); rintro e w42 ⟨rfl, hb⟩; refine ⟨_, rfl, ?_⟩; have n0_ := Aside0.mk (below_step (by repeat (first | (with_reducible first | exact HB.out | apply below_alloc | apply pw_below_drewN | apply below_drew1) | exact HB.out)) hb); clear HB; have HB := n0_; clear n0_; (try clear hb); (try clear hb2); (try clear hk); (try clear hi)))
                go_ret
                exact ⟨by first | rfl | (simp [errW_none, errW_some] <;> rfl) | (simp [*, errW_none, errW_some] <;> rfl), by repeat (first | (with_reducible first | exact HB.out | apply below_alloc | apply pw_below_drewN | apply below_drew1) | exact HB.out)⟩
              · rw [if_neg c38] at H
                exact absurd H (by simp)
            · rw [if_neg c37] at H
              exact absurd H (by simp)
          · rw [if_neg c36] at H
            exact absurd H (by simp)
        · exact absurd rfl c35
  · replace c7 := Bool.eq_false_iff.mpr c7
    subst c7
    have H1 : (none) = some r := by rw [if_neg (show ¬ (false = true) by decide)] at H; exact H
    clear H
    have H := H1
    clear H1
    exact absurd H (by simp)

/-- THE ONE PURE STATEMENT of archivistlaw03_UnitReads: yours. -/
def archivistlaw03_UnitReads.Pure : Prop := ∀ (a0 : ByteArray) (a1 : Bool) (l2 : List Int) (a3 : Int) (a4 : Bool), a0.size ≤ 140737488351232 → l2.length ≤ maxLen → l2.length * 1 ≤ 140737488351232 → (∀ x ∈ l2, (Lit.int .u8 x).wf = true) → (Lit.int .i64 a3).wf = true → ∃ k, archivistlaw03_UnitReads.f k a0 a1 l2 a3 a4 = some true
theorem archivistlaw03_UnitReads.walk (P : archivistlaw03_UnitReads.Pure) (a0 : ByteArray) (a1 : Bool) (a2 : Option Addr) (len2 cap2 : Nat) (z2 : List Int) (a3 : Int) (a4 : Bool) (w : World) (w0 : a0.size ≤ 140737488351232) (w2 : (a2 = none ∧ len2 = 0 ∧ cap2 = 0 ∧ z2 = []) ∨ ∃ x, a2 = some x ∧ len2 ≤ cap2 ∧ cap2 ≤ maxLen ∧ z2.length = cap2 ∧ (∀ i, i < z2.length → w.cell? (x.add i) = some (.int .u8 (z2.getD i 0))) ∧ ∀ n ∈ z2, (Lit.int .u8 n).wf = true) (y2 : len2 * 1 ≤ 140737488351232) (w3 : (Lit.int .i64 a3).wf = true) (hLd : Laid w) :
    Calls Tryd.prog 3 #[.string a0, .bool a1, .slice a2 len2 cap2, .int .i64 a3, .bool a4] w fun e w' => e = .returned (.bool true) ∧ Below w.heap.size w w' := by
  obtain ⟨l2, rfl, hr2, hm2, hw2, hc2⟩ := ReadsInt.ofRowC w2
  obtain ⟨k, h⟩ := P a0 a1 l2 a3 a4 w0 hm2 y2 hw2 w3
  refine (archivistlaw03_UnitReads.calls k a0 a1 _ _ l2 a3 a4 true w (Kd.C_of_reads (d := (0 : Int)) (h1 := fun _ => rfl) hr2) hc2 h hLd).mono ?_
  rintro e w' ⟨rfl, hd⟩
  exact ⟨rfl, hd⟩

end Go.Proofs.YtpijoadbaocnpaaDoor.X
