-- Laid by xprint.py, a program of this session's, out of the translation.
import Derived.Test.YtpijoadbaocnpaaDoorX0
import Derived.Test.YtpijoadbaocnpaaDoorX1
import Derived.Test.YtpijoadbaocnpaaDoorX3
import Derived.Test.YtpijoadbaocnpaaDoorX4
import Derived.Test.YtpijoadbaocnpaaDoorX5
import Derived.Test.YtpijoadbaocnpaaDoorX8
import Derived.Test.YtpijoadbaocnpaaDoorX10
namespace Go.Proofs.YtpijoadbaocnpaaDoor.X
open Go.RowKit Go.Proofs.YtpijoadbaocnpaaDoorW.PrintWords Go.Proofs.YtpijoadbaocnpaaDoorW.PrintLast Go.Proofs.YtpijoadbaocnpaaDoorW.PrintMore
attribute [local go_sem] max2_int min2_int max_two min_two max_three min_three max_four min_four x_isSome x_str_gtr x_str_leq x_str_geq   -- for this text's walks alone
set_option linter.unusedVariables false
set_option linter.unusedSimpArgs false

/-! ### archivistref03_Size: function 19 -/
def archivistref03_Size.l0 : Nat → Int → List Int → List ByteArray → Int → Option (ByteArray × Bool)
  | 0, _, _, _, _ => none
  | k + 1, x0, x4, x5, x6 => if x6 < (x4.length : Int) then (if 0 ≤ x6 then (if (rd x4 x6) = 0 then (none) else (if (Int.tmod x0 (rd x4 x6)) = 0 then ((archivistref02_Text.f k (wrap64 (Int.tdiv x0 (rd x4 x6)))).bind fun t278 => (if x6 < (x5.length : Int) then (if t278.size + (rdOf ByteArray.empty x5 x6).size ≤ 9223372036854775807 then (some (t278 ++ (rdOf ByteArray.empty x5 x6), true)) else (none)) else (none))) else (archivistref03_Size.l0 k x0 x4 x5 (wrap64 (x6 + 1))))) else (none)) else (some ((⟨#[]⟩ : ByteArray), false))
def archivistref03_Size.f (k : Nat) (a0 : Int) : Option (ByteArray × Bool) := if a0 < 0 then (some ((⟨#[]⟩ : ByteArray), false)) else (if a0 = 0 then (some ((⟨#[48, 66]⟩ : ByteArray), true)) else ((archivistref03_factors.f true).bind fun t270 => ((archivistref03_names.f true).bind fun t273 => (archivistref03_Size.l0 k a0 t270 t273 0))))
theorem archivistref03_Size.mono_l : ∀ k, (∀ y0 y1 y2 y3, LeO (archivistref03_Size.l0 k y0 y1 y2 y3) (archivistref03_Size.l0 (k + 1) y0 y1 y2 y3))
  | 0 => fun _ _ _ _ r h => by simp [archivistref03_Size.l0] at h
  | k + 1 => by
    have ih0 := archivistref03_Size.mono_l k
    · intro y0 y1 y2 y3
      unfold archivistref03_Size.l0
      repeat' first
      | (with_reducible exact ih0 _ _ _ _)
      | (with_reducible exact archivistref02_Text.mono _ _)
      | (with_reducible exact LeO.refl _)
      | (with_reducible exact LeO.none _)
      | (with_reducible refine LeO.ite ?_ ?_)
      | (with_reducible refine LeO.bind ?_ (fun _ => ?_))
      | exact ih0 _ _ _ _
      | exact archivistref02_Text.mono _ _
      | exact LeO.none _
      | refine LeO.ite ?_ ?_
      | refine LeO.bind ?_ (fun _ => ?_)
theorem archivistref03_Size.mono : ∀ a0 k, LeO (archivistref03_Size.f k a0) (archivistref03_Size.f (k + 1) a0) := by
  intro a0 k
  have ih0 := archivistref03_Size.mono_l k
  unfold archivistref03_Size.f
  repeat' first
      | (with_reducible exact ih0 _ _ _ _)
      | (with_reducible exact archivistref02_Text.mono _ _)
      | (with_reducible exact LeO.refl _)
      | (with_reducible exact LeO.none _)
      | (with_reducible refine LeO.ite ?_ ?_)
      | (with_reducible refine LeO.bind ?_ (fun _ => ?_))
      | exact ih0 _ _ _ _
      | exact archivistref02_Text.mono _ _
      | exact LeO.none _
      | refine LeO.ite ?_ ?_
      | refine LeO.bind ?_ (fun _ => ?_)
def archivistref03_Size.T11 : Bool × List (List Nat × List Nat) := (true, [([], []), ([], []), ([], []), ([1, 2], [1, 2]), ([3], [3]), ([0, 4], [0, 4]), ([5], [5]), ([], []), ([], []), ([7, 8], [7, 8]), ([9], [9]), ([6, 10], [6, 10]), ([11, 6, 0, 1, 2, 3, 4, 5, 6, 7, 8, 9, 10, 11], [11]), ([12, 0, 1, 2, 3, 4, 5, 6, 7, 8, 9, 10, 11, 12], [])])
def archivistref03_Size.B11 : List Nat := [0, 0, 0, 6, 14, 31, 63, 0, 0, 384, 896, 2047, 4095, 8191]
theorem archivistref03_Size.tab11 : rtab .any (opsOf Tryd.f19 11) = archivistref03_Size.T11 := by kernel_rfl
theorem archivistref03_Size.bits11 : waitsOk archivistref03_Size.T11.2 archivistref03_Size.B11 = true := by kernel_rfl
set_option maxHeartbeats 8000000 in
set_option maxRecDepth 100000 in
theorem archivistref03_Size.calls (k : Nat) (a0 : Int) (r1 : ByteArray) (r2 : Bool) (w : World) (h : archivistref03_Size.f k a0 = some (r1, r2)) :
    Calls Tryd.prog 19 #[.int .i64 a0] w fun e w' => e = .returned (.tuple #[.string r1, .bool r2]) ∧ Below w.heap.size w w' := by
  have HB := Aside0.mk (Below.refl w.heap.size w)
  have H : (if a0 < 0 then (some ((⟨#[]⟩ : ByteArray), false)) else (if a0 = 0 then (some ((⟨#[48, 66]⟩ : ByteArray), true)) else ((archivistref03_factors.f true).bind fun t270 => ((archivistref03_names.f true).bind fun t273 => (archivistref03_Size.l0 k a0 t270 t273 0))))) = some (r1, r2) := h
  clear h
  by_cases c2 : a0 < 0
  · rw [if_pos c2] at H
    have c2b0 : decide (a0 < 0) = true := decide_eq_true c2
    clear c2
    simp only [Option.some.injEq, Prod.mk.injEq] at H
    obtain ⟨rfl, rfl⟩ := H
    go_enter Tryd.func19, Tryd.ntmps19
    go_wp2
    go_ret2
    exact ⟨by first | rfl | (simp [errW_none, errW_some] <;> rfl) | (simp [*, errW_none, errW_some] <;> rfl), by repeat (first | (with_reducible first | exact HB.out | apply below_alloc | apply pw_below_drewN | apply below_drew1) | exact HB.out)⟩
  · rw [if_neg c2] at H
    have c2b0 : decide (a0 < 0) = false := decide_eq_false c2
    clear c2
    by_cases c3 : a0 = 0
    · rw [if_pos c3] at H
      have c3b0 : (a0 == 0) = true := beq_iff_eq.mpr c3
      have c3b1 : (a0 != 0) = false := bne_eq_false_iff_eq.mpr c3
      clear c3
      simp only [Option.some.injEq, Prod.mk.injEq] at H
      obtain ⟨rfl, rfl⟩ := H
      go_enter Tryd.func19, Tryd.ntmps19
      go_wp2
      go_ret2
      exact ⟨by first | rfl | (simp [errW_none, errW_some] <;> rfl) | (simp [*, errW_none, errW_some] <;> rfl), by repeat (first | (with_reducible first | exact HB.out | apply below_alloc | apply pw_below_drewN | apply below_drew1) | exact HB.out)⟩
    · rw [if_neg c3] at H
      have c3b0 : (a0 == 0) = false := beq_eq_false_iff_ne.mpr c3
      have c3b1 : (a0 != 0) = true := bne_iff_ne.mpr c3
      replace H := Option.bind_eq_some_iff.mp H
      obtain ⟨t270, A40, H⟩ := H
      replace H : ((archivistref03_names.f true).bind fun t273 => (archivistref03_Size.l0 k a0 t270 t273 0)) = some (r1, r2) := H
      have A4 := Aside0.mk A40
      clear A40
      replace H := Option.bind_eq_some_iff.mp H
      obtain ⟨t273, A50, H⟩ := H
      replace H : (archivistref03_Size.l0 k a0 t270 t273 0) = some (r1, r2) := H
      have A5 := Aside0.mk A50
      clear A50
      have H' := Aside0.mk H
      clear H
      go_enter Tryd.func19, Tryd.ntmps19
      go_wp2_with (first | ((with_reducible refine gate_callee (f := 28) rfl ?_); refine goesL_ (some 11) rfl rfl Tryd.func28 (by kernel_rfl) rfl #[.bool true] rfl (by (try simp only [List.map_toArray, List.map_cons, List.map_nil]); first | done | rfl | (simp only [List.length_drop, List.length_take]; rfl)) ?_; (with_reducible refine (archivistref03_factors.calls true t270 _ A4.out).mono ?_); rintro e w6 ⟨v271, rfl, ho0, hb⟩; refine ⟨_, rfl, ?_⟩; have n0_ := Aside0.mk (Kd.R_lower ho0 (below_size (by repeat (first | (with_reducible first | exact HB.out | apply below_alloc | apply pw_below_drewN | apply below_drew1) | exact HB.out)))); have n1_ := Aside0.mk (below_step (by repeat (first | (with_reducible first | exact HB.out | apply below_alloc | apply pw_below_drewN | apply below_drew1) | exact HB.out)) hb); clear HB; have HO272 := n0_; have HB := n1_; clear n0_ n1_; (try clear hb); (try clear hb2); (try clear hk); (try clear hi); (try clear ho0)) | ((with_reducible refine gate_callee (f := 32) rfl ?_); refine goesL_ (some 12) rfl rfl Tryd.func32 (by kernel_rfl) rfl #[.bool true] rfl (by (try simp only [List.map_toArray, List.map_cons, List.map_nil]); first | done | rfl | (simp only [List.length_drop, List.length_take]; rfl)) ?_; (with_reducible refine (archivistref03_names.calls true t273 _ A5.out).mono ?_); rintro e w7 ⟨v274, rfl, ho0, hb⟩; refine ⟨_, rfl, ?_⟩; have n0_ := Aside0.mk (Kd.R_below (by (with_reducible repeat (first | apply Kd.R_alloc | apply Kd.R_drewN | apply Kd.R_drew)); exact HO272.out) hb); have n1_ := Aside0.mk (Kd.R_lower ho0 (below_size (by repeat (first | (with_reducible first | exact HB.out | apply below_alloc | apply pw_below_drewN | apply below_drew1) | exact HB.out)))); have n2_ := Aside0.mk (below_step (by repeat (first | (with_reducible first | exact HB.out | apply below_alloc | apply pw_below_drewN | apply below_drew1) | exact HB.out)) hb); clear HO272; clear HB; have HO272 := n0_; have HO275 := n1_; have HB := n2_; clear n0_ n1_ n2_; (try clear hb); (try clear hb2); (try clear hk); (try clear hi); (try clear ho0)))
      go_loopg [6] k (fun kq v6 w' => ∃ (x6_1 : Int), v6 = .int .i64 x6_1 ∧ Aside0 (archivistref03_Size.l0 kq a0 t270 t273 x6_1 = some (r1, r2)) ∧ Aside0 (kq ≤ k) ∧ Aside0 (Kd.R (Kd.int .i64) 2 w' w.heap.size (fun _ => True) v271 t270) ∧ Aside0 (Kd.R Kd.string 9 w' w.heap.size (fun _ => True) v274 t273) ∧ Aside0 (Below w.heap.size w w'))
      case atStart => exact ⟨(0), (by first | rfl | (simp; done) | (simp [*]; done)), H', ⟨Nat.le_refl _⟩, ⟨by (with_reducible repeat (first | apply Kd.R_alloc | apply Kd.R_drewN | apply Kd.R_drew)); exact HO272.out⟩, ⟨by (with_reducible repeat (first | apply Kd.R_alloc | apply Kd.R_drewN | apply Kd.R_drew)); exact HO275.out⟩, ⟨by repeat (first | (with_reducible first | exact HB.out | apply below_alloc | apply pw_below_drewN | apply below_drew1) | exact HB.out)⟩⟩
      case round =>
        clear H'
        try clear c1
        try clear c2
        try clear c2b0
        try clear p2
        try clear c3
        try clear c3b0
        try clear c3b1
        obtain ⟨x6_1, rfl, HA, HK1, HO_4, HO_5, HB⟩ := hrel
        cases gk with
        | zero => exact absurd HA.out (by simp [archivistref03_Size.l0])
        | succ k1 =>
          have H := HA.out
          clear HA
          simp only [archivistref03_Size.l0] at H
          by_cases c8 : x6_1 < (t270.length : Int)
          · rw [if_pos c8] at H
            have c8b0 : decide (x6_1 < (t270.length : Int)) = true := decide_eq_true c8
            clear c8
            by_cases c9 : 0 ≤ x6_1
            · rw [if_pos c9] at H
              have c9b0 : decide (0 ≤ x6_1) = true := decide_eq_true c9
              clear c9
              by_cases c10 : (rd t270 x6_1) = 0
              · rw [if_pos c10] at H
                exact absurd H (by simp)
              · rw [if_neg c10] at H
                have c10b0 : ((rd t270 x6_1) == 0) = false := beq_eq_false_iff_ne.mpr c10
                have c10b1 : ((rd t270 x6_1) != 0) = true := bne_iff_ne.mpr c10
                by_cases c11 : (Int.tmod a0 (rd t270 x6_1)) = 0
                · rw [if_pos c11] at H
                  have c11b0 : ((Int.tmod a0 (rd t270 x6_1)) == 0) = true := beq_iff_eq.mpr c11
                  have c11b1 : ((Int.tmod a0 (rd t270 x6_1)) != 0) = false := bne_eq_false_iff_eq.mpr c11
                  clear c11
                  replace H := Option.bind_eq_some_iff.mp H
                  obtain ⟨t278, A120, H⟩ := H
                  replace H : (if x6_1 < (t273.length : Int) then (if t278.size + (rdOf ByteArray.empty t273 x6_1).size ≤ 9223372036854775807 then (some (t278 ++ (rdOf ByteArray.empty t273 x6_1), true)) else (none)) else (none)) = some (r1, r2) := H
                  have A12 := Aside0.mk A120
                  clear A120
                  by_cases c13 : x6_1 < (t273.length : Int)
                  · rw [if_pos c13] at H
                    have c13b0 : decide (x6_1 < (t273.length : Int)) = true := decide_eq_true c13
                    clear c13
                    by_cases c14 : t278.size + (rdOf ByteArray.empty t273 x6_1).size ≤ 9223372036854775807
                    · rw [if_pos c14] at H
                      have c14b0 := eq_true c14
                      have c14b1 : decide (t278.size + (rdOf ByteArray.empty t273 x6_1).size ≤ 9223372036854775807) = true := decide_eq_true c14
                      try have c14b2 : (9223372036854775807 < t278.size + (rdOf ByteArray.empty t273 x6_1).size) = False := eq_false (Nat.not_lt.2 c14)
                      simp only [Option.some.injEq, Prod.mk.injEq] at H
                      obtain ⟨rfl, rfl⟩ := H
                      obtain ⟨Ao15, co15, eo15⟩ := Kd.R_slice HO_4.out
                      subst eo15
                      have p276 : 0 ≤ (x6_1 : Int) := of_decide_eq_true (by first | (with_reducible assumption) | assumption)
                      have q276 : x6_1 < (t270.length : Int) := of_decide_eq_true (by first | (with_reducible assumption) | assumption)
                      obtain ⟨ad276, e276, hx276_0⟩ := Kd.at_int (Kd.R_reads' HO_4.out).2.2 x6_1 p276 q276
                      cases e276
                      replace p276 := eq_true p276
                      replace q276 := eq_true q276
                      try go_wp2
                      have n0_ := Aside0.mk (Kd.R_drew HO_4.out)
                      have n1_ := Aside0.mk (Kd.R_drew HO_5.out)
                      have n2_ := Aside0.mk (below_drew1 HB.out)
                      clear HO_4
                      clear HO_5
                      clear HB
                      have HO_4 := n0_
                      have HO_5 := n1_
                      have HB := n2_
                      clear n0_ n1_ n2_
                      have p277 : 0 ≤ (x6_1 : Int) := of_decide_eq_true (by first | (with_reducible assumption) | assumption)
                      have q277 : x6_1 < (t270.length : Int) := of_decide_eq_true (by first | (with_reducible assumption) | assumption)
                      obtain ⟨ad277, e277, hx277_0⟩ := Kd.at_int (Kd.R_reads' HO_4.out).2.2 x6_1 p277 q277
                      obtain rfl : ad276 = ad277 := (by injection e277)
                      replace p277 := eq_true p277
                      replace q277 := eq_true q277
                      obtain ⟨Ao17, co17, eo17⟩ := Kd.R_slice HO_5.out
                      (first | subst eo17 | (injection eo17 with f1_ f2_ f3_; have f4_ := f1_.symm; have f5_ := f3_.symm; clear f1_ f2_ f3_; subst f4_; subst f5_))
                      have p279 : 0 ≤ (x6_1 : Int) := of_decide_eq_true (by first | (with_reducible assumption) | assumption)
                      have q279 : x6_1 < (t273.length : Int) := of_decide_eq_true (by first | (with_reducible assumption) | assumption)
                      obtain ⟨ad279, e279, hx279_0⟩ := Kd.at_string (Kd.R_reads' HO_5.out).2.2 x6_1 p279 q279
                      cases e279
                      replace p279 := eq_true p279
                      replace q279 := eq_true q279
                      refine start_ (n := 14) (S := fun w' => w'.cell? (ad276.add (x6_1).toNat) = some (.int .i64 (rd t270 x6_1)) ∧ w'.cell? (ad279.add (x6_1).toNat) = some (.string (rdOf ByteArray.empty t273 x6_1))) (ds := []) #[false, false, false, false, false, false, false, false, false, false, false, false, false, false] (by kernel_rfl) rfl rfl ⟨hx277_0, hx279_0⟩ (fun hHeld => ?_); refine with_tabW archivistref03_Size.tab11 archivistref03_Size.bits11 (fun HT_ HW_ => ?_)
                      generalize wr.drew = w16 at HO_4 HO_5 HB hx277_0 hx279_0 hHeld ⊢
                      refine pure_ (i := 0) (N := some 26) (v := ?_) (a' := ?_) #[true, false, false, false, false, false, false, false, false, false, false, false, false, false] rfl rfl (any_of HT_.out (by kernel_rfl)) (fun _ _ _ h => h) (Or.inl ⟨by rfl, ?_⟩) ?_ ?_
                      rotate_left
                      · intro w'
                        go_simp
                        with_reducible rfl
                      rotate_left
                      · simp only [Act.put, List.setIfInBounds_toArray, List.set_cons_zero, List.set_cons_succ, i64_w, i32_w]
                        rfl
                      refine pure_ (i := 1) (N := some 27) (v := ?_) (a' := ?_) #[true, true, false, false, false, false, false, false, false, false, false, false, false, false] rfl rfl (any_of HT_.out (by kernel_rfl)) (fun _ _ _ h => h) (Or.inl ⟨by rfl, ?_⟩) ?_ ?_
                      rotate_left
                      · intro w'
                        go_simp
                        with_reducible rfl
                      rotate_left
                      · simp only [Act.put, List.setIfInBounds_toArray, List.set_cons_zero, List.set_cons_succ, i64_w, i32_w]
                        rfl
                      refine pure_ (i := 2) (N := some 28) (v := ?_) (a' := ?_) #[true, true, true, false, false, false, false, false, false, false, false, false, false, false] rfl rfl (any_of HT_.out (by kernel_rfl)) (fun _ _ _ h => h) (Or.inl ⟨by rfl, ?_⟩) ?_ ?_
                      rotate_left
                      · intro w'
                        go_simp
                        with_reducible rfl
                      rotate_left
                      · simp only [Act.put, List.setIfInBounds_toArray, List.set_cons_zero, List.set_cons_succ, i64_w, i32_w]
                        rfl
                      refine pure_ (i := 3) (N := some 29) (v := ?_) (a' := ?_) #[true, true, true, true, false, false, false, false, false, false, false, false, false, false] rfl rfl (any_of HT_.out (by kernel_rfl)) (fun _ _ _ h => h) (Or.inl ⟨by rfl, ?_⟩) ?_ ?_
                      rotate_left
                      · intro w'
                        go_simp
                        with_reducible rfl
                      rotate_left
                      · simp only [Act.put, List.setIfInBounds_toArray, List.set_cons_zero, List.set_cons_succ, i64_w, i32_w]
                        rfl
                      refine pure_ (i := 7) (N := some 33) (v := ?_) (a' := ?_) #[true, true, true, true, false, false, false, true, false, false, false, false, false, false] rfl rfl (any_of HT_.out (by kernel_rfl)) (fun _ _ _ h => h) (Or.inl ⟨by rfl, ?_⟩) ?_ ?_
                      rotate_left
                      · intro w'
                        go_simp
                        with_reducible rfl
                      rotate_left
                      · simp only [Act.put, List.setIfInBounds_toArray, List.set_cons_zero, List.set_cons_succ, i64_w, i32_w]
                        rfl
                      refine pure_ (i := 8) (N := some 34) (v := ?_) (a' := ?_) #[true, true, true, true, false, false, false, true, true, false, false, false, false, false] rfl rfl (any_of HT_.out (by kernel_rfl)) (fun _ _ _ h => h) (Or.inl ⟨by rfl, ?_⟩) ?_ ?_
                      rotate_left
                      · intro w'
                        go_simp
                        with_reducible rfl
                      rotate_left
                      · simp only [Act.put, List.setIfInBounds_toArray, List.set_cons_zero, List.set_cons_succ, i64_w, i32_w]
                        rfl
                      refine pure_ (i := 9) (N := some 35) (v := ?_) (a' := ?_) #[true, true, true, true, false, false, false, true, true, true, false, false, false, false] rfl rfl (any_of HT_.out (by kernel_rfl)) (fun _ _ _ h => h) (Or.inl ⟨by rfl, ?_⟩) ?_ ?_
                      rotate_left
                      · intro w'
                        go_simp
                        with_reducible rfl
                      rotate_left
                      · simp only [Act.put, List.setIfInBounds_toArray, List.set_cons_zero, List.set_cons_succ, i64_w, i32_w]
                        rfl
                      refine take_ (i := 4) (N := some 30) (v := ?_) (a' := ?_) #[true, true, true, true, true, false, false, true, true, true, false, false, false, false] rfl rfl (take_ofW HT_.out HW_.out (by kernel_rfl)) (fun _ _ _ h => h) (Or.inl ⟨by rfl, ?_⟩) hHeld ?_ ?_
                      rotate_left
                      · rintro w' ⟨s0, s1⟩
                        go_simp
                        with_reducible rfl
                      rotate_left
                      · simp only [Act.put, List.setIfInBounds_toArray, List.set_cons_zero, List.set_cons_succ, i64_w, i32_w]
                        rfl
                      refine pure_ (i := 5) (N := some 31) (v := ?_) (a' := ?_) #[true, true, true, true, true, true, false, true, true, true, false, false, false, false] rfl rfl (any_of HT_.out (by kernel_rfl)) (fun _ _ _ h => h) (Or.inl ⟨by rfl, ?_⟩) ?_ ?_
                      rotate_left
                      · intro w'
                        go_simp
                        with_reducible rfl
                      rotate_left
                      · simp only [Act.put, List.setIfInBounds_toArray, List.set_cons_zero, List.set_cons_succ, i64_w, i32_w]
                        rfl
                      refine take_ (i := 10) (N := some 36) (v := ?_) (a' := ?_) #[true, true, true, true, true, true, false, true, true, true, true, false, false, false] rfl rfl (take_ofW HT_.out HW_.out (by kernel_rfl)) (fun _ _ _ h => h) (Or.inl ⟨by rfl, ?_⟩) hHeld ?_ ?_
                      rotate_left
                      · rintro w' ⟨s0, s1⟩
                        go_simp
                        with_reducible rfl
                      rotate_left
                      · simp only [Act.put, List.setIfInBounds_toArray, List.set_cons_zero, List.set_cons_succ, i64_w, i32_w]
                        rfl
                      refine one_ (i := 6) (N := some 32) #[true, true, true, true, true, true, true, true, true, true, true, false, false, false] rfl rfl (one_of HT_.out (by kernel_rfl)) (by decide) (fun K hK => ?_)
                      refine goes_ Tryd.func22 (by kernel_rfl) rfl #[.int .i64 (wrap64 (Int.tdiv a0 (rd t270 x6_1)))] (by rfl) rfl rfl (by (try simp only [List.map_toArray, List.map_cons, List.map_nil]); first | done | rfl | (simp only [List.length_drop, List.length_take]; rfl)) ?_
                      with_reducible refine (archivistref02_Text.calls k1 (wrap64 (Int.tdiv a0 (rd t270 x6_1))) t278 _ A12.out).mono ?_
                      rintro e w18 ⟨rfl, hb⟩
                      have HS0_ := (hb.cell (World.block_lt_of_cell? _ _ (hHeld.1))).trans (hHeld.1)
                      have HS1_ := (hb.cell (World.block_lt_of_cell? _ _ (hHeld.2))).trans (hHeld.2)
                      refine ⟨_, rfl, ?_⟩
                      have n0_ := Aside0.mk (Kd.R_below (by (with_reducible repeat (first | apply Kd.R_alloc | apply Kd.R_drewN | apply Kd.R_drew)); exact HO_4.out) hb)
                      have n1_ := Aside0.mk (Kd.R_below (by (with_reducible repeat (first | apply Kd.R_alloc | apply Kd.R_drewN | apply Kd.R_drew)); exact HO_5.out) hb)
                      have n2_ := Aside0.mk (below_step (by repeat (first | (with_reducible first | exact HB.out | apply below_alloc | apply pw_below_drewN | apply below_drew1) | exact HB.out)) hb)
                      clear HO_4
                      clear HO_5
                      clear HB
                      have HO_4 := n0_
                      have HO_5 := n1_
                      have HB := n2_
                      clear n0_ n1_ n2_
                      (try clear hb)
                      (try clear hb2)
                      (try clear hk)
                      (try clear hi)
                      refine hK.out _ _ ⟨HS0_, HS1_⟩ (fun hHeld => ?_)
                      clear hK K
                      refine norm_ (a' := ?_) ?_ ?_
                      rotate_left
                      · show Act.put _ (some 32) _ = _
                        simp only [Act.put, List.setIfInBounds_toArray, List.set_cons_zero, List.set_cons_succ, i64_w, i32_w]
                        rfl
                      refine pure_ (i := 11) (N := some 37) (v := ?_) (a' := ?_) #[true, true, true, true, true, true, true, true, true, true, true, true, false, false] rfl rfl (any_of HT_.out (by kernel_rfl)) (fun _ _ _ h => h) (Or.inl ⟨by rfl, ?_⟩) ?_ ?_
                      rotate_left
                      · intro w'
                        go_simp
                        with_reducible rfl
                      rotate_left
                      · simp only [Act.put, List.setIfInBounds_toArray, List.set_cons_zero, List.set_cons_succ, i64_w, i32_w]
                        rfl
                      refine pure_ (i := 12) (N := some 2) (v := ?_) (a' := ?_) #[true, true, true, true, true, true, true, true, true, true, true, true, true, false] rfl rfl (any_of HT_.out (by kernel_rfl)) (fun _ _ _ h => h) (Or.inl ⟨by rfl, ?_⟩) ?_ ?_
                      rotate_left
                      · intro w'
                        go_simp
                        with_reducible rfl
                      rotate_left
                      · simp only [Act.put, List.setIfInBounds_toArray, List.set_cons_zero, List.set_cons_succ, i64_w, i32_w]
                        rfl
                      refine pure_ (i := 13) (N := some 3) (v := ?_) (a' := ?_) #[true, true, true, true, true, true, true, true, true, true, true, true, true, true] rfl rfl (any_of HT_.out (by kernel_rfl)) (fun _ _ _ h => h) (Or.inl ⟨by rfl, ?_⟩) ?_ ?_
                      rotate_left
                      · intro w'
                        go_simp
                        with_reducible rfl
                      rotate_left
                      · simp only [Act.put, List.setIfInBounds_toArray, List.set_cons_zero, List.set_cons_succ, i64_w, i32_w]
                        rfl
                      refine done_ (done_of HT_.out (by kernel_rfl)) ?_
                      try go_wp2
                      go_ret2
                      exact ⟨by first | rfl | (simp [errW_none, errW_some] <;> rfl) | (simp [*, errW_none, errW_some] <;> rfl), by repeat (first | (with_reducible first | exact HB.out | apply below_alloc | apply pw_below_drewN | apply below_drew1) | exact HB.out)⟩
                    · rw [if_neg c14] at H
                      exact absurd H (by simp)
                  · rw [if_neg c13] at H
                    exact absurd H (by simp)
                · rw [if_neg c11] at H
                  have c11b0 : ((Int.tmod a0 (rd t270 x6_1)) == 0) = false := beq_eq_false_iff_ne.mpr c11
                  have c11b1 : ((Int.tmod a0 (rd t270 x6_1)) != 0) = true := bne_iff_ne.mpr c11
                  have H' := Aside0.mk H
                  clear H
                  obtain ⟨Ao19, co19, eo19⟩ := Kd.R_slice HO_4.out
                  subst eo19
                  have p276 : 0 ≤ (x6_1 : Int) := of_decide_eq_true (by first | (with_reducible assumption) | assumption)
                  have q276 : x6_1 < (t270.length : Int) := of_decide_eq_true (by first | (with_reducible assumption) | assumption)
                  obtain ⟨ad276, e276, hx276_0⟩ := Kd.at_int (Kd.R_reads' HO_4.out).2.2 x6_1 p276 q276
                  cases e276
                  replace p276 := eq_true p276
                  replace q276 := eq_true q276
                  go_wp2
                  go_roundg k1
                  case measure => have := HK1.out; omega
                  case rel => exact ⟨(wrap64 (x6_1 + 1)), (by first | rfl | (simp; done) | (simp [*]; done)), H', ⟨by have := HK1.out; omega⟩, ⟨by (with_reducible repeat (first | apply Kd.R_alloc | apply Kd.R_drewN | apply Kd.R_drew)); exact HO_4.out⟩, ⟨by (with_reducible repeat (first | apply Kd.R_alloc | apply Kd.R_drewN | apply Kd.R_drew)); exact HO_5.out⟩, ⟨by repeat (first | (with_reducible first | exact HB.out | apply below_alloc | apply pw_below_drewN | apply below_drew1) | exact HB.out)⟩⟩
            · rw [if_neg c9] at H
              exact absurd H (by simp)
          · rw [if_neg c8] at H
            have c8b0 : decide (x6_1 < (t270.length : Int)) = false := decide_eq_false c8
            clear c8
            simp only [Option.some.injEq, Prod.mk.injEq] at H
            obtain ⟨rfl, rfl⟩ := H
            obtain ⟨Ao20, co20, eo20⟩ := Kd.R_slice HO_4.out
            subst eo20
            go_wp2
            go_ret2
            exact ⟨by first | rfl | (simp [errW_none, errW_some] <;> rfl) | (simp [*, errW_none, errW_some] <;> rfl), by repeat (first | (with_reducible first | exact HB.out | apply below_alloc | apply pw_below_drewN | apply below_drew1) | exact HB.out)⟩

/-! ### archivistlaw03_UnitTells: function 4 -/
def archivistlaw03_UnitTells.f (k : Nat) (a0 : Int) (a1 : Int) : Option (Bool) := (archivistlaw03_examples.f k).bind fun t280 => (if t280 = true then (if 0 ≤ (Int.tmod a1 64) then ((unit_Span.f k (shr .i64 a0 (Int.tmod a1 64))).bind fun bt281 => ((archivistref03_Span.f k (shr .i64 a0 (Int.tmod a1 64))).bind fun bt283 => ((unit_Size.f k (shr .i64 a0 (Int.tmod a1 64))).bind fun bt285 => ((archivistref03_Size.f k (shr .i64 a0 (Int.tmod a1 64))).bind fun bt287 => (if bt281.1.toList = bt283.1.toList then (if (bt281.2 == bt283.2) = true then (if bt285.1.toList = bt287.1.toList then (some (bt285.2 == bt287.2)) else (none)) else (none)) else (none)))))) else (none)) else (none))
theorem archivistlaw03_UnitTells.mono : ∀ a0 a1 k, LeO (archivistlaw03_UnitTells.f k a0 a1) (archivistlaw03_UnitTells.f (k + 1) a0 a1) := by
  intro a0 a1 k
  unfold archivistlaw03_UnitTells.f
  repeat' first
      | (with_reducible exact archivistlaw03_examples.mono _)
      | (with_reducible exact archivistref03_Size.mono _ _)
      | (with_reducible exact archivistref03_Span.mono _ _)
      | (with_reducible exact unit_Size.mono _ _)
      | (with_reducible exact unit_Span.mono _ _)
      | (with_reducible exact LeO.refl _)
      | (with_reducible exact LeO.none _)
      | (with_reducible refine LeO.ite ?_ ?_)
      | (with_reducible refine LeO.bind ?_ (fun _ => ?_))
      | exact archivistlaw03_examples.mono _
      | exact archivistref03_Size.mono _ _
      | exact archivistref03_Span.mono _ _
      | exact unit_Size.mono _ _
      | exact unit_Span.mono _ _
      | exact LeO.none _
      | refine LeO.ite ?_ ?_
      | refine LeO.bind ?_ (fun _ => ?_)
set_option maxHeartbeats 8000000 in
set_option maxRecDepth 100000 in
theorem archivistlaw03_UnitTells.calls (k : Nat) (a0 : Int) (a1 : Int) (r : Bool) (w : World) (h : archivistlaw03_UnitTells.f k a0 a1 = some r) (hLd : Laid w) :
    Calls Tryd.prog 4 #[.int .i64 a0, .int .u8 a1] w fun e w' => e = .returned (.bool r) ∧ Below w.heap.size w w' := by
  have HLd := Aside0.mk hLd
  clear hLd
  have HB := Aside0.mk (Below.refl w.heap.size w)
  have H : ((archivistlaw03_examples.f k).bind fun t280 => (if t280 = true then (if 0 ≤ (Int.tmod a1 64) then ((unit_Span.f k (shr .i64 a0 (Int.tmod a1 64))).bind fun bt281 => ((archivistref03_Span.f k (shr .i64 a0 (Int.tmod a1 64))).bind fun bt283 => ((unit_Size.f k (shr .i64 a0 (Int.tmod a1 64))).bind fun bt285 => ((archivistref03_Size.f k (shr .i64 a0 (Int.tmod a1 64))).bind fun bt287 => (if bt281.1.toList = bt283.1.toList then (if (bt281.2 == bt283.2) = true then (if bt285.1.toList = bt287.1.toList then (some (bt285.2 == bt287.2)) else (none)) else (none)) else (none)))))) else (none)) else (none))) = some r := h
  clear h
  replace H := Option.bind_eq_some_iff.mp H
  obtain ⟨t280, A30, H⟩ := H
  replace H : (if t280 = true then (if 0 ≤ (Int.tmod a1 64) then ((unit_Span.f k (shr .i64 a0 (Int.tmod a1 64))).bind fun bt281 => ((archivistref03_Span.f k (shr .i64 a0 (Int.tmod a1 64))).bind fun bt283 => ((unit_Size.f k (shr .i64 a0 (Int.tmod a1 64))).bind fun bt285 => ((archivistref03_Size.f k (shr .i64 a0 (Int.tmod a1 64))).bind fun bt287 => (if bt281.1.toList = bt283.1.toList then (if (bt281.2 == bt283.2) = true then (if bt285.1.toList = bt287.1.toList then (some (bt285.2 == bt287.2)) else (none)) else (none)) else (none)))))) else (none)) else (none)) = some r := H
  have A3 := Aside0.mk A30
  clear A30
  by_cases c4 : t280 = true
  · subst c4
    have H1 : (if 0 ≤ (Int.tmod a1 64) then ((unit_Span.f k (shr .i64 a0 (Int.tmod a1 64))).bind fun bt281 => ((archivistref03_Span.f k (shr .i64 a0 (Int.tmod a1 64))).bind fun bt283 => ((unit_Size.f k (shr .i64 a0 (Int.tmod a1 64))).bind fun bt285 => ((archivistref03_Size.f k (shr .i64 a0 (Int.tmod a1 64))).bind fun bt287 => (if bt281.1.toList = bt283.1.toList then (if (bt281.2 == bt283.2) = true then (if bt285.1.toList = bt287.1.toList then (some (bt285.2 == bt287.2)) else (none)) else (none)) else (none)))))) else (none)) = some r := by rw [if_pos rfl] at H; exact H
    clear H
    have H := H1
    clear H1
    obtain ⟨ji5, hji5⟩ : ∃ j_ : Int, (Int.tmod a1 64) = j_ := ⟨_, rfl⟩
    replace H : (if 0 ≤ (ji5) then ((unit_Span.f k (shr .i64 a0 (ji5))).bind fun bt281 => ((archivistref03_Span.f k (shr .i64 a0 (ji5))).bind fun bt283 => ((unit_Size.f k (shr .i64 a0 (ji5))).bind fun bt285 => ((archivistref03_Size.f k (shr .i64 a0 (ji5))).bind fun bt287 => (if bt281.1.toList = bt283.1.toList then (if (bt281.2 == bt283.2) = true then (if bt285.1.toList = bt287.1.toList then (some (bt285.2 == bt287.2)) else (none)) else (none)) else (none)))))) else (none)) = some r := by first | (rw [hji5] at H; exact H) | (simp only [hji5] at H ⊢; exact H)
    (try rw [hji5] at A3)
    by_cases c6 : 0 ≤ (ji5)
    · rw [if_pos c6] at H
      have c6b0 := eq_true c6
      have c6b1 : decide (0 ≤ (ji5)) = true := decide_eq_true c6
      clear c6
      obtain ⟨ji7, hji7⟩ : ∃ j_ : Int, (shr .i64 a0 (ji5)) = j_ := ⟨_, rfl⟩
      replace H : ((unit_Span.f k (ji7)).bind fun bt281 => ((archivistref03_Span.f k (ji7)).bind fun bt283 => ((unit_Size.f k (ji7)).bind fun bt285 => ((archivistref03_Size.f k (ji7)).bind fun bt287 => (if bt281.1.toList = bt283.1.toList then (if (bt281.2 == bt283.2) = true then (if bt285.1.toList = bt287.1.toList then (some (bt285.2 == bt287.2)) else (none)) else (none)) else (none)))))) = some r := by first | (rw [hji7] at H; exact H) | (simp only [hji7] at H ⊢; exact H)
      (try rw [hji7] at A3)
      have hji7_ : (a0 / 2 ^ min (ji5).toNat 64) = ji7 := hji7
      have hji7z : (ji5) ≤ 64 → (a0 / 2 ^ (ji5).toNat) = ji7 := shr_small hji7
      replace H := Option.bind_eq_some_iff.mp H
      obtain ⟨⟨t281, t282⟩, A80, H⟩ := H
      replace H : ((archivistref03_Span.f k (ji7)).bind fun bt283 => ((unit_Size.f k (ji7)).bind fun bt285 => ((archivistref03_Size.f k (ji7)).bind fun bt287 => (if t281.toList = bt283.1.toList then (if (t282 == bt283.2) = true then (if bt285.1.toList = bt287.1.toList then (some (bt285.2 == bt287.2)) else (none)) else (none)) else (none))))) = some r := H
      have A8 := Aside0.mk A80
      clear A80
      replace H := Option.bind_eq_some_iff.mp H
      obtain ⟨⟨t283, t284⟩, A90, H⟩ := H
      replace H : ((unit_Size.f k (ji7)).bind fun bt285 => ((archivistref03_Size.f k (ji7)).bind fun bt287 => (if t281.toList = t283.toList then (if (t282 == t284) = true then (if bt285.1.toList = bt287.1.toList then (some (bt285.2 == bt287.2)) else (none)) else (none)) else (none)))) = some r := H
      have A9 := Aside0.mk A90
      clear A90
      replace H := Option.bind_eq_some_iff.mp H
      obtain ⟨⟨t285, t286⟩, A100, H⟩ := H
      replace H : ((archivistref03_Size.f k (ji7)).bind fun bt287 => (if t281.toList = t283.toList then (if (t282 == t284) = true then (if t285.toList = bt287.1.toList then (some (t286 == bt287.2)) else (none)) else (none)) else (none))) = some r := H
      have A10 := Aside0.mk A100
      clear A100
      replace H := Option.bind_eq_some_iff.mp H
      obtain ⟨⟨t287, t288⟩, A110, H⟩ := H
      replace H : (if t281.toList = t283.toList then (if (t282 == t284) = true then (if t285.toList = t287.toList then (some (t286 == t288)) else (none)) else (none)) else (none)) = some r := H
      have A11 := Aside0.mk A110
      clear A110
      by_cases c12 : t281.toList = t283.toList
      · rw [if_pos c12] at H
        have c12b0 : (t281.toList == t283.toList) = true := beq_iff_eq.mpr c12
        have c12b1 : (t281.toList != t283.toList) = false := bne_eq_false_iff_eq.mpr c12
        clear c12
        by_cases c13 : (t282 == t284) = true
        · rw [if_pos c13] at H
          have c13b0 : (t282 == t284) = true := c13
          (try (have c13b1 : decide (t282 = t284) = true := by simpa using c13))
          (try (have c13b2 : (t282 == t284) = true := by simpa using c13))
          clear c13
          by_cases c14 : t285.toList = t287.toList
          · rw [if_pos c14] at H
            have c14b0 : (t285.toList == t287.toList) = true := beq_iff_eq.mpr c14
            have c14b1 : (t285.toList != t287.toList) = false := bne_eq_false_iff_eq.mpr c14
            clear c14
            obtain rfl := Option.some.inj H
            go_enter Tryd.func4, Tryd.ntmps4
            go_wp2_with (first | ((with_reducible refine gate_callee (f := 10) rfl ?_); refine goesL_ (some 14) rfl rfl Tryd.func10 (by kernel_rfl) rfl #[] rfl (by (try simp only [List.map_toArray, List.map_cons, List.map_nil]); first | done | rfl | (simp only [List.length_drop, List.length_take]; rfl)) ?_; (with_reducible refine (archivistlaw03_examples.calls k  true _ A3.out ?sideLd).mono ?_); (case sideLd => exact laid_below HLd.out (by repeat (first | (with_reducible first | exact HB.out | apply below_alloc | apply pw_below_drewN | apply below_drew1) | exact HB.out))); rintro e w15 ⟨rfl, hb⟩; refine ⟨_, rfl, ?_⟩; have n0_ := Aside0.mk (below_step (by repeat (first | (with_reducible first | exact HB.out | apply below_alloc | apply pw_below_drewN | apply below_drew1) | exact HB.out)) hb); clear HB; have HB := n0_; clear n0_; (try clear hb); (try clear hb2); (try clear hk); (try clear hi)) | ((with_reducible refine gate_callee (f := 16) rfl ?_); refine goesL_ (some 23) rfl rfl Tryd.func16 (by kernel_rfl) rfl #[.int .i64 ji7] rfl (by (try simp only [List.map_toArray, List.map_cons, List.map_nil]); first | done | (simp only [hji7]; rfl) | rfl | (simp only [List.length_drop, List.length_take]; rfl)) ?_; (with_reducible refine (unit_Span.calls k ji7 t281 t282 _ A8.out ?sideLd).mono ?_); (case sideLd => exact laid_below HLd.out (by repeat (first | (with_reducible first | exact HB.out | apply below_alloc | apply pw_below_drewN | apply below_drew1) | exact HB.out))); rintro e w16 ⟨rfl, hb⟩; refine ⟨_, rfl, ?_⟩; have n0_ := Aside0.mk (below_step (by repeat (first | (with_reducible first | exact HB.out | apply below_alloc | apply pw_below_drewN | apply below_drew1) | exact HB.out)) hb); clear HB; have HB := n0_; clear n0_; (try clear hb); (try clear hb2); (try clear hk); (try clear hi)) | ((with_reducible refine gate_callee (f := 17) rfl ?_); refine goesL_ (some 28) rfl rfl Tryd.func17 (by kernel_rfl) rfl #[.int .i64 ji7] rfl (by (try simp only [List.map_toArray, List.map_cons, List.map_nil]); first | done | (simp only [hji7]; rfl) | rfl | (simp only [List.length_drop, List.length_take]; rfl)) ?_; (with_reducible refine (archivistref03_Span.calls k ji7 t283 t284 _ A9.out).mono ?_); rintro e w17 ⟨rfl, hb⟩; refine ⟨_, rfl, ?_⟩; have n0_ := Aside0.mk (below_step (by repeat (first | (with_reducible first | exact HB.out | apply below_alloc | apply pw_below_drewN | apply below_drew1) | exact HB.out)) hb); clear HB; have HB := n0_; clear n0_; (try clear hb); (try clear hb2); (try clear hk); (try clear hi)) | ((with_reducible refine gate_callee (f := 18) rfl ?_); refine goesL_ (some 33) rfl rfl Tryd.func18 (by kernel_rfl) rfl #[.int .i64 ji7] rfl (by (try simp only [List.map_toArray, List.map_cons, List.map_nil]); first | done | (simp only [hji7]; rfl) | rfl | (simp only [List.length_drop, List.length_take]; rfl)) ?_; (with_reducible refine (unit_Size.calls k ji7 t285 t286 _ A10.out ?sideLd).mono ?_); (case sideLd => exact laid_below HLd.out (by repeat (first | (with_reducible first | exact HB.out | apply below_alloc | apply pw_below_drewN | apply below_drew1) | exact HB.out))); rintro e w18 ⟨rfl, hb⟩; refine ⟨_, rfl, ?_⟩; have n0_ := Aside0.mk (below_step (by repeat (first | (with_reducible first | exact HB.out | apply below_alloc | apply pw_below_drewN | apply below_drew1) | exact HB.out)) hb); clear HB; have HB := n0_; clear n0_; (try clear hb); (try clear hb2); (try clear hk); (try clear hi)) | ((with_reducible refine gate_callee (f := 19) rfl ?_); refine goesL_ (some 38) rfl rfl Tryd.func19 (by kernel_rfl) rfl #[.int .i64 ji7] rfl (by (try simp only [List.map_toArray, List.map_cons, List.map_nil]); first | done | (simp only [hji7]; rfl) | rfl | (simp only [List.length_drop, List.length_take]; rfl)) ?_; (with_reducible refine (archivistref03_Size.calls k ji7 t287 t288 _ A11.out).mono ?_); rintro e w19 ⟨rfl, hb⟩; refine ⟨_, rfl, ?_⟩; have n0_ := Aside0.mk (below_step (by repeat (first | (with_reducible first | exact HB.out | apply below_alloc | apply pw_below_drewN | apply below_drew1) | exact HB.out)) hb); clear HB; have HB := n0_; clear n0_; (try clear hb); (try clear hb2); (try clear hk); (try clear hi)))
            go_ret
            exact ⟨by first | rfl | (simp [errW_none, errW_some] <;> rfl) | (simp only [← hji5, ← hji7]; first | rfl | (simp [errW_none, errW_some] <;> rfl)) | (simp [*, errW_none, errW_some] <;> rfl), by repeat (first | (with_reducible first | exact HB.out | apply below_alloc | apply pw_below_drewN | apply below_drew1) | exact HB.out)⟩
          · rw [if_neg c14] at H
            exact absurd H (by simp)
        · rw [if_neg c13] at H
          exact absurd H (by simp)
      · rw [if_neg c12] at H
        exact absurd H (by simp)
    · rw [if_neg c6] at H
      exact absurd H (by simp)
  · replace c4 := Bool.eq_false_iff.mpr c4
    subst c4
    have H1 : (none) = some r := by rw [if_neg (show ¬ (false = true) by decide)] at H; exact H
    clear H
    have H := H1
    clear H1
    exact absurd H (by simp)

/-- THE ONE PURE STATEMENT of archivistlaw03_UnitTells: yours. -/
def archivistlaw03_UnitTells.Pure : Prop := ∀ (a0 : Int) (a1 : Int), (Lit.int .i64 a0).wf = true → (Lit.int .u8 a1).wf = true → ∃ k, archivistlaw03_UnitTells.f k a0 a1 = some true
theorem archivistlaw03_UnitTells.walk (P : archivistlaw03_UnitTells.Pure) (a0 : Int) (a1 : Int) (w : World) (w0 : (Lit.int .i64 a0).wf = true) (w1 : (Lit.int .u8 a1).wf = true) (hLd : Laid w) :
    Calls Tryd.prog 4 #[.int .i64 a0, .int .u8 a1] w fun e w' => e = .returned (.bool true) ∧ Below w.heap.size w w' := by
  obtain ⟨k, h⟩ := P a0 a1 w0 w1
  refine (archivistlaw03_UnitTells.calls k a0 a1 true w h hLd).mono ?_
  rintro e w' ⟨rfl, hd⟩
  exact ⟨rfl, hd⟩

/-! ### archivistlaw03_UnitBack: function 5 -/
def archivistlaw03_UnitBack.f (k : Nat) (a0 : Int) (a1 : Int) : Option (Bool) := (archivistlaw03_examples.f k).bind fun t289 => (if t289 = true then (if 0 ≤ (Int.tmod a1 64) then ((unit_Span.f k (shr .i64 a0 (Int.tmod a1 64))).bind fun bt290 => ((unit_Size.f k (shr .i64 a0 (Int.tmod a1 64))).bind fun bt292 => (if (shr .i64 a0 (Int.tmod a1 64)) < 0 then (if bt290.2 = true then (none) else (if bt292.2 = true then (none) else (if bt290.1.toList = ([] : List UInt8) then (some (bt292.1.toList == ([] : List UInt8))) else (none)))) else ((unit_Duration.f k bt290.1).bind fun bt294 => ((unit_Bytes.f bt292.1).bind fun bt296 => ((unit_Duration.f k bt292.1).bind fun bt298 => (if bt290.2 = true then (if bt292.2 = true then (if bt294.1 = (shr .i64 a0 (Int.tmod a1 64)) then (if bt294.2 = true then (if bt296.1 = (shr .i64 a0 (Int.tmod a1 64)) then (if bt296.2 = true then (some (!bt298.2)) else (none)) else (none)) else (none)) else (none)) else (none)) else (none)))))))) else (none)) else (none))
theorem archivistlaw03_UnitBack.mono : ∀ a0 a1 k, LeO (archivistlaw03_UnitBack.f k a0 a1) (archivistlaw03_UnitBack.f (k + 1) a0 a1) := by
  intro a0 a1 k
  unfold archivistlaw03_UnitBack.f
  repeat' first
      | (with_reducible exact archivistlaw03_examples.mono _)
      | (with_reducible exact unit_Duration.mono _ _)
      | (with_reducible exact unit_Size.mono _ _)
      | (with_reducible exact unit_Span.mono _ _)
      | (with_reducible exact LeO.refl _)
      | (with_reducible exact LeO.none _)
      | (with_reducible refine LeO.ite ?_ ?_)
      | (with_reducible refine LeO.bind ?_ (fun _ => ?_))
      | exact archivistlaw03_examples.mono _
      | exact unit_Duration.mono _ _
      | exact unit_Size.mono _ _
      | exact unit_Span.mono _ _
      | exact LeO.none _
      | refine LeO.ite ?_ ?_
      | refine LeO.bind ?_ (fun _ => ?_)
set_option maxHeartbeats 8000000 in
set_option maxRecDepth 100000 in
theorem archivistlaw03_UnitBack.calls (k : Nat) (a0 : Int) (a1 : Int) (r : Bool) (w : World) (h : archivistlaw03_UnitBack.f k a0 a1 = some r) (hLd : Laid w) :
    Calls Tryd.prog 5 #[.int .i64 a0, .int .u8 a1] w fun e w' => e = .returned (.bool r) ∧ Below w.heap.size w w' := by
  have HLd := Aside0.mk hLd
  clear hLd
  have HB := Aside0.mk (Below.refl w.heap.size w)
  have H : ((archivistlaw03_examples.f k).bind fun t289 => (if t289 = true then (if 0 ≤ (Int.tmod a1 64) then ((unit_Span.f k (shr .i64 a0 (Int.tmod a1 64))).bind fun bt290 => ((unit_Size.f k (shr .i64 a0 (Int.tmod a1 64))).bind fun bt292 => (if (shr .i64 a0 (Int.tmod a1 64)) < 0 then (if bt290.2 = true then (none) else (if bt292.2 = true then (none) else (if bt290.1.toList = ([] : List UInt8) then (some (bt292.1.toList == ([] : List UInt8))) else (none)))) else ((unit_Duration.f k bt290.1).bind fun bt294 => ((unit_Bytes.f bt292.1).bind fun bt296 => ((unit_Duration.f k bt292.1).bind fun bt298 => (if bt290.2 = true then (if bt292.2 = true then (if bt294.1 = (shr .i64 a0 (Int.tmod a1 64)) then (if bt294.2 = true then (if bt296.1 = (shr .i64 a0 (Int.tmod a1 64)) then (if bt296.2 = true then (some (!bt298.2)) else (none)) else (none)) else (none)) else (none)) else (none)) else (none)))))))) else (none)) else (none))) = some r := h
  clear h
  replace H := Option.bind_eq_some_iff.mp H
  obtain ⟨t289, A30, H⟩ := H
  replace H : (if t289 = true then (if 0 ≤ (Int.tmod a1 64) then ((unit_Span.f k (shr .i64 a0 (Int.tmod a1 64))).bind fun bt290 => ((unit_Size.f k (shr .i64 a0 (Int.tmod a1 64))).bind fun bt292 => (if (shr .i64 a0 (Int.tmod a1 64)) < 0 then (if bt290.2 = true then (none) else (if bt292.2 = true then (none) else (if bt290.1.toList = ([] : List UInt8) then (some (bt292.1.toList == ([] : List UInt8))) else (none)))) else ((unit_Duration.f k bt290.1).bind fun bt294 => ((unit_Bytes.f bt292.1).bind fun bt296 => ((unit_Duration.f k bt292.1).bind fun bt298 => (if bt290.2 = true then (if bt292.2 = true then (if bt294.1 = (shr .i64 a0 (Int.tmod a1 64)) then (if bt294.2 = true then (if bt296.1 = (shr .i64 a0 (Int.tmod a1 64)) then (if bt296.2 = true then (some (!bt298.2)) else (none)) else (none)) else (none)) else (none)) else (none)) else (none)))))))) else (none)) else (none)) = some r := H
  have A3 := Aside0.mk A30
  clear A30
  by_cases c4 : t289 = true
  · subst c4
    have H1 : (if 0 ≤ (Int.tmod a1 64) then ((unit_Span.f k (shr .i64 a0 (Int.tmod a1 64))).bind fun bt290 => ((unit_Size.f k (shr .i64 a0 (Int.tmod a1 64))).bind fun bt292 => (if (shr .i64 a0 (Int.tmod a1 64)) < 0 then (if bt290.2 = true then (none) else (if bt292.2 = true then (none) else (if bt290.1.toList = ([] : List UInt8) then (some (bt292.1.toList == ([] : List UInt8))) else (none)))) else ((unit_Duration.f k bt290.1).bind fun bt294 => ((unit_Bytes.f bt292.1).bind fun bt296 => ((unit_Duration.f k bt292.1).bind fun bt298 => (if bt290.2 = true then (if bt292.2 = true then (if bt294.1 = (shr .i64 a0 (Int.tmod a1 64)) then (if bt294.2 = true then (if bt296.1 = (shr .i64 a0 (Int.tmod a1 64)) then (if bt296.2 = true then (some (!bt298.2)) else (none)) else (none)) else (none)) else (none)) else (none)) else (none)))))))) else (none)) = some r := by rw [if_pos rfl] at H; exact H
    clear H
    have H := H1
    clear H1
    obtain ⟨ji5, hji5⟩ : ∃ j_ : Int, (Int.tmod a1 64) = j_ := ⟨_, rfl⟩
    replace H : (if 0 ≤ (ji5) then ((unit_Span.f k (shr .i64 a0 (ji5))).bind fun bt290 => ((unit_Size.f k (shr .i64 a0 (ji5))).bind fun bt292 => (if (shr .i64 a0 (ji5)) < 0 then (if bt290.2 = true then (none) else (if bt292.2 = true then (none) else (if bt290.1.toList = ([] : List UInt8) then (some (bt292.1.toList == ([] : List UInt8))) else (none)))) else ((unit_Duration.f k bt290.1).bind fun bt294 => ((unit_Bytes.f bt292.1).bind fun bt296 => ((unit_Duration.f k bt292.1).bind fun bt298 => (if bt290.2 = true then (if bt292.2 = true then (if bt294.1 = (shr .i64 a0 (ji5)) then (if bt294.2 = true then (if bt296.1 = (shr .i64 a0 (ji5)) then (if bt296.2 = true then (some (!bt298.2)) else (none)) else (none)) else (none)) else (none)) else (none)) else (none)))))))) else (none)) = some r := by first | (rw [hji5] at H; exact H) | (simp only [hji5] at H ⊢; exact H)
    (try rw [hji5] at A3)
    by_cases c6 : 0 ≤ (ji5)
    · rw [if_pos c6] at H
      have c6b0 := eq_true c6
      have c6b1 : decide (0 ≤ (ji5)) = true := decide_eq_true c6
      clear c6
      obtain ⟨ji7, hji7⟩ : ∃ j_ : Int, (shr .i64 a0 (ji5)) = j_ := ⟨_, rfl⟩
      replace H : ((unit_Span.f k (ji7)).bind fun bt290 => ((unit_Size.f k (ji7)).bind fun bt292 => (if (ji7) < 0 then (if bt290.2 = true then (none) else (if bt292.2 = true then (none) else (if bt290.1.toList = ([] : List UInt8) then (some (bt292.1.toList == ([] : List UInt8))) else (none)))) else ((unit_Duration.f k bt290.1).bind fun bt294 => ((unit_Bytes.f bt292.1).bind fun bt296 => ((unit_Duration.f k bt292.1).bind fun bt298 => (if bt290.2 = true then (if bt292.2 = true then (if bt294.1 = (ji7) then (if bt294.2 = true then (if bt296.1 = (ji7) then (if bt296.2 = true then (some (!bt298.2)) else (none)) else (none)) else (none)) else (none)) else (none)) else (none)))))))) = some r := by first | (rw [hji7] at H; exact H) | (simp only [hji7] at H ⊢; exact H)
      (try rw [hji7] at A3)
      have hji7_ : (a0 / 2 ^ min (ji5).toNat 64) = ji7 := hji7
      have hji7z : (ji5) ≤ 64 → (a0 / 2 ^ (ji5).toNat) = ji7 := shr_small hji7
      replace H := Option.bind_eq_some_iff.mp H
      obtain ⟨⟨t290, t291⟩, A80, H⟩ := H
      replace H : ((unit_Size.f k (ji7)).bind fun bt292 => (if (ji7) < 0 then (if t291 = true then (none) else (if bt292.2 = true then (none) else (if t290.toList = ([] : List UInt8) then (some (bt292.1.toList == ([] : List UInt8))) else (none)))) else ((unit_Duration.f k t290).bind fun bt294 => ((unit_Bytes.f bt292.1).bind fun bt296 => ((unit_Duration.f k bt292.1).bind fun bt298 => (if t291 = true then (if bt292.2 = true then (if bt294.1 = (ji7) then (if bt294.2 = true then (if bt296.1 = (ji7) then (if bt296.2 = true then (some (!bt298.2)) else (none)) else (none)) else (none)) else (none)) else (none)) else (none))))))) = some r := H
      have A8 := Aside0.mk A80
      clear A80
      replace H := Option.bind_eq_some_iff.mp H
      obtain ⟨⟨t292, t293⟩, A90, H⟩ := H
      replace H : (if (ji7) < 0 then (if t291 = true then (none) else (if t293 = true then (none) else (if t290.toList = ([] : List UInt8) then (some (t292.toList == ([] : List UInt8))) else (none)))) else ((unit_Duration.f k t290).bind fun bt294 => ((unit_Bytes.f t292).bind fun bt296 => ((unit_Duration.f k t292).bind fun bt298 => (if t291 = true then (if t293 = true then (if bt294.1 = (ji7) then (if bt294.2 = true then (if bt296.1 = (ji7) then (if bt296.2 = true then (some (!bt298.2)) else (none)) else (none)) else (none)) else (none)) else (none)) else (none)))))) = some r := H
      have A9 := Aside0.mk A90
      clear A90
      by_cases c10 : (ji7) < 0
      · rw [if_pos c10] at H
        have c10b0 : decide ((ji7) < 0) = true := decide_eq_true c10
        clear c10
        by_cases c11 : t291 = true
        · subst c11
          have H1 : (none) = some r := by rw [if_pos rfl] at H; exact H
          clear H
          have H := H1
          clear H1
          exact absurd H (by simp)
        · replace c11 := Bool.eq_false_iff.mpr c11
          subst c11
          have H1 : (if t293 = true then (none) else (if t290.toList = ([] : List UInt8) then (some (t292.toList == ([] : List UInt8))) else (none))) = some r := by rw [if_neg (show ¬ (false = true) by decide)] at H; exact H
          clear H
          have H := H1
          clear H1
          by_cases c12 : t293 = true
          · subst c12
            have H1 : (none) = some r := by rw [if_pos rfl] at H; exact H
            clear H
            have H := H1
            clear H1
            exact absurd H (by simp)
          · replace c12 := Bool.eq_false_iff.mpr c12
            subst c12
            have H1 : (if t290.toList = ([] : List UInt8) then (some (t292.toList == ([] : List UInt8))) else (none)) = some r := by rw [if_neg (show ¬ (false = true) by decide)] at H; exact H
            clear H
            have H := H1
            clear H1
            by_cases c13 : t290.toList = ([] : List UInt8)
            · rw [if_pos c13] at H
              have c13b0 : (t290.toList == ([] : List UInt8)) = true := beq_iff_eq.mpr c13
              have c13b1 : (t290.toList != ([] : List UInt8)) = false := bne_eq_false_iff_eq.mpr c13
              clear c13
              obtain rfl := Option.some.inj H
              go_enter Tryd.func5, Tryd.ntmps5
              go_wp2_with (first | ((with_reducible refine gate_callee (f := 10) rfl ?_); refine goesL_ (some 16) rfl rfl Tryd.func10 (by kernel_rfl) rfl #[] rfl (by (try simp only [List.map_toArray, List.map_cons, List.map_nil]); first | done | rfl | (simp only [List.length_drop, List.length_take]; rfl)) ?_; (with_reducible refine (archivistlaw03_examples.calls k  true _ A3.out ?sideLd).mono ?_); (case sideLd => exact laid_below HLd.out (by repeat (first | (with_reducible first | exact HB.out | apply below_alloc | apply pw_below_drewN | apply below_drew1) | exact HB.out))); rintro e w14 ⟨rfl, hb⟩; refine ⟨_, rfl, ?_⟩; have n0_ := Aside0.mk (below_step (by repeat (first | (with_reducible first | exact HB.out | apply below_alloc | apply pw_below_drewN | apply below_drew1) | exact HB.out)) hb); clear HB; have HB := n0_; clear n0_; (try clear hb); (try clear hb2); (try clear hk); (try clear hi)) | ((with_reducible refine gate_callee (f := 16) rfl ?_); refine goesL_ (some 25) rfl rfl Tryd.func16 (by kernel_rfl) rfl #[.int .i64 ji7] rfl (by (try simp only [List.map_toArray, List.map_cons, List.map_nil]); first | done | (simp only [hji7]; rfl) | rfl | (simp only [List.length_drop, List.length_take]; rfl)) ?_; (with_reducible refine (unit_Span.calls k ji7 t290 false _ A8.out ?sideLd).mono ?_); (case sideLd => exact laid_below HLd.out (by repeat (first | (with_reducible first | exact HB.out | apply below_alloc | apply pw_below_drewN | apply below_drew1) | exact HB.out))); rintro e w15 ⟨rfl, hb⟩; refine ⟨_, rfl, ?_⟩; have n0_ := Aside0.mk (below_step (by repeat (first | (with_reducible first | exact HB.out | apply below_alloc | apply pw_below_drewN | apply below_drew1) | exact HB.out)) hb); clear HB; have HB := n0_; clear n0_; (try clear hb); (try clear hb2); (try clear hk); (try clear hi)) | ((with_reducible refine gate_callee (f := 18) rfl ?_); refine goesL_ (some 30) rfl rfl Tryd.func18 (by kernel_rfl) rfl #[.int .i64 ji7] rfl (by (try simp only [List.map_toArray, List.map_cons, List.map_nil]); first | done | (simp only [hji7]; rfl) | rfl | (simp only [List.length_drop, List.length_take]; rfl)) ?_; (with_reducible refine (unit_Size.calls k ji7 t292 false _ A9.out ?sideLd).mono ?_); (case sideLd => exact laid_below HLd.out (by repeat (first | (with_reducible first | exact HB.out | apply below_alloc | apply pw_below_drewN | apply below_drew1) | exact HB.out))); rintro e w16 ⟨rfl, hb⟩; refine ⟨_, rfl, ?_⟩; have n0_ := Aside0.mk (below_step (by repeat (first | (with_reducible first | exact HB.out | apply below_alloc | apply pw_below_drewN | apply below_drew1) | exact HB.out)) hb); clear HB; have HB := n0_; clear n0_; (try clear hb); (try clear hb2); (try clear hk); (try clear hi)))
              go_ret
              exact ⟨by first | rfl | (simp [errW_none, errW_some] <;> rfl) | (simp only [← hji5, ← hji7]; first | rfl | (simp [errW_none, errW_some] <;> rfl)) | (simp [*, errW_none, errW_some] <;> rfl), by repeat (first | (with_reducible first | exact HB.out | apply below_alloc | apply pw_below_drewN | apply below_drew1) | exact HB.out)⟩
            · rw [if_neg c13] at H
              exact absurd H (by simp)
      · rw [if_neg c10] at H
        have c10b0 : decide ((ji7) < 0) = false := decide_eq_false c10
        clear c10
        replace H := Option.bind_eq_some_iff.mp H
        obtain ⟨⟨t294, t295⟩, A170, H⟩ := H
        replace H : ((unit_Bytes.f t292).bind fun bt296 => ((unit_Duration.f k t292).bind fun bt298 => (if t291 = true then (if t293 = true then (if t294 = (ji7) then (if t295 = true then (if bt296.1 = (ji7) then (if bt296.2 = true then (some (!bt298.2)) else (none)) else (none)) else (none)) else (none)) else (none)) else (none)))) = some r := H
        have A17 := Aside0.mk A170
        clear A170
        replace H := Option.bind_eq_some_iff.mp H
        obtain ⟨⟨t296, t297⟩, A180, H⟩ := H
        replace H : ((unit_Duration.f k t292).bind fun bt298 => (if t291 = true then (if t293 = true then (if t294 = (ji7) then (if t295 = true then (if t296 = (ji7) then (if t297 = true then (some (!bt298.2)) else (none)) else (none)) else (none)) else (none)) else (none)) else (none))) = some r := H
        have A18 := Aside0.mk A180
        clear A180
        replace H := Option.bind_eq_some_iff.mp H
        obtain ⟨⟨t298, t299⟩, A190, H⟩ := H
        replace H : (if t291 = true then (if t293 = true then (if t294 = (ji7) then (if t295 = true then (if t296 = (ji7) then (if t297 = true then (some (!t299)) else (none)) else (none)) else (none)) else (none)) else (none)) else (none)) = some r := H
        have A19 := Aside0.mk A190
        clear A190
        by_cases c20 : t291 = true
        · subst c20
          have H1 : (if t293 = true then (if t294 = (ji7) then (if t295 = true then (if t296 = (ji7) then (if t297 = true then (some (!t299)) else (none)) else (none)) else (none)) else (none)) else (none)) = some r := by rw [if_pos rfl] at H; exact H
          clear H
          have H := H1
          clear H1
          by_cases c21 : t293 = true
          · subst c21
            have H1 : (if t294 = (ji7) then (if t295 = true then (if t296 = (ji7) then (if t297 = true then (some (!t299)) else (none)) else (none)) else (none)) else (none)) = some r := by rw [if_pos rfl] at H; exact H
            clear H
            have H := H1
            clear H1
            by_cases c22 : t294 = (ji7)
            · rw [if_pos c22] at H
              have c22b0 : (t294 == (ji7)) = true := beq_iff_eq.mpr c22
              have c22b1 : (t294 != (ji7)) = false := bne_eq_false_iff_eq.mpr c22
              clear c22
              by_cases c23 : t295 = true
              · subst c23
                have H1 : (if t296 = (ji7) then (if t297 = true then (some (!t299)) else (none)) else (none)) = some r := by rw [if_pos rfl] at H; exact H
                clear H
                have H := H1
                clear H1
                by_cases c24 : t296 = (ji7)
                · rw [if_pos c24] at H
                  have c24b0 : (t296 == (ji7)) = true := beq_iff_eq.mpr c24
                  have c24b1 : (t296 != (ji7)) = false := bne_eq_false_iff_eq.mpr c24
                  clear c24
                  by_cases c25 : t297 = true
                  · subst c25
                    have H1 : (some (!t299)) = some r := by rw [if_pos rfl] at H; exact H
                    clear H
                    have H := H1
                    clear H1
                    obtain rfl := Option.some.inj H
                    go_enter Tryd.func5, Tryd.ntmps5
                    go_wp2_with (first | ((with_reducible refine gate_callee (f := 10) rfl ?_); refine goesL_ (some 16) rfl rfl Tryd.func10 (by kernel_rfl) rfl #[] rfl (by (try simp only [List.map_toArray, List.map_cons, List.map_nil]); first | done | rfl | (simp only [List.length_drop, List.length_take]; rfl)) ?_; (with_reducible refine (archivistlaw03_examples.calls k  true _ A3.out ?sideLd).mono ?_); (case sideLd => exact laid_below HLd.out (by repeat (first | (with_reducible first | exact HB.out | apply below_alloc | apply pw_below_drewN | apply below_drew1) | exact HB.out))); rintro e w26 ⟨rfl, hb⟩; refine ⟨_, rfl, ?_⟩; have n0_ := Aside0.mk (below_step (by repeat (first | (with_reducible first | exact HB.out | apply below_alloc | apply pw_below_drewN | apply below_drew1) | exact HB.out)) hb); clear HB; have HB := n0_; clear n0_; (try clear hb); (try clear hb2); (try clear hk); (try clear hi)) | ((with_reducible refine gate_callee (f := 16) rfl ?_); refine goesL_ (some 25) rfl rfl Tryd.func16 (by kernel_rfl) rfl #[.int .i64 ji7] rfl (by (try simp only [List.map_toArray, List.map_cons, List.map_nil]); first | done | (simp only [hji7]; rfl) | rfl | (simp only [List.length_drop, List.length_take]; rfl)) ?_; (with_reducible refine (unit_Span.calls k ji7 t290 true _ A8.out ?sideLd).mono ?_); (case sideLd => exact laid_below HLd.out (by repeat (first | (with_reducible first | exact HB.out | apply below_alloc | apply pw_below_drewN | apply below_drew1) | exact HB.out))); rintro e w27 ⟨rfl, hb⟩; refine ⟨_, rfl, ?_⟩; have n0_ := Aside0.mk (below_step (by repeat (first | (with_reducible first | exact HB.out | apply below_alloc | apply pw_below_drewN | apply below_drew1) | exact HB.out)) hb); clear HB; have HB := n0_; clear n0_; (try clear hb); (try clear hb2); (try clear hk); (try clear hi)) | ((with_reducible refine gate_callee (f := 18) rfl ?_); refine goesL_ (some 30) rfl rfl Tryd.func18 (by kernel_rfl) rfl #[.int .i64 ji7] rfl (by (try simp only [List.map_toArray, List.map_cons, List.map_nil]); first | done | (simp only [hji7]; rfl) | rfl | (simp only [List.length_drop, List.length_take]; rfl)) ?_; (with_reducible refine (unit_Size.calls k ji7 t292 true _ A9.out ?sideLd).mono ?_); (case sideLd => exact laid_below HLd.out (by repeat (first | (with_reducible first | exact HB.out | apply below_alloc | apply pw_below_drewN | apply below_drew1) | exact HB.out))); rintro e w28 ⟨rfl, hb⟩; refine ⟨_, rfl, ?_⟩; have n0_ := Aside0.mk (below_step (by repeat (first | (with_reducible first | exact HB.out | apply below_alloc | apply pw_below_drewN | apply below_drew1) | exact HB.out)) hb); clear HB; have HB := n0_; clear n0_; (try clear hb); (try clear hb2); (try clear hk); (try clear hi)) | ((with_reducible refine gate_callee (f := 12) rfl ?_); refine goesL_ (some 54) rfl rfl Tryd.func12 (by kernel_rfl) rfl #[.string t290] rfl (by (try simp only [List.map_toArray, List.map_cons, List.map_nil]); first | done | rfl | (simp only [List.length_drop, List.length_take]; rfl)) ?_; (with_reducible refine (unit_Duration.calls k t290 t294 true _ A17.out ?sideLd).mono ?_); (case sideLd => exact laid_below HLd.out (by repeat (first | (with_reducible first | exact HB.out | apply below_alloc | apply pw_below_drewN | apply below_drew1) | exact HB.out))); rintro e w29 ⟨rfl, hb⟩; refine ⟨_, rfl, ?_⟩; have n0_ := Aside0.mk (below_step (by repeat (first | (with_reducible first | exact HB.out | apply below_alloc | apply pw_below_drewN | apply below_drew1) | exact HB.out)) hb); clear HB; have HB := n0_; clear n0_; (try clear hb); (try clear hb2); (try clear hk); (try clear hi)) | ((with_reducible refine gate_callee (f := 14) rfl ?_); refine goesL_ (some 59) rfl rfl Tryd.func14 (by kernel_rfl) rfl #[.string t292] rfl (by (try simp only [List.map_toArray, List.map_cons, List.map_nil]); first | done | rfl | (simp only [List.length_drop, List.length_take]; rfl)) ?_; (with_reducible refine (unit_Bytes.calls t292 t296 true _ A18.out ?sideLd).mono ?_); (case sideLd => exact laid_below HLd.out (by repeat (first | (with_reducible first | exact HB.out | apply below_alloc | apply pw_below_drewN | apply below_drew1) | exact HB.out))); rintro e w30 ⟨rfl, hb⟩; refine ⟨_, rfl, ?_⟩; have n0_ := Aside0.mk (below_step (by repeat (first | (with_reducible first | exact HB.out | apply below_alloc | apply pw_below_drewN | apply below_drew1) | exact HB.out)) hb); clear HB; have HB := n0_; clear n0_; (try clear hb); (try clear hb2); (try clear hk); (try clear hi)) | ((with_reducible refine gate_callee (f := 12) rfl ?_); refine goesL_ (some 64) rfl rfl Tryd.func12 (by kernel_rfl) rfl #[.string t292] rfl (by (try simp only [List.map_toArray, List.map_cons, List.map_nil]); first | done | rfl | (simp only [List.length_drop, List.length_take]; rfl)) ?_; (with_reducible refine (unit_Duration.calls k t292 t298 t299 _ A19.out ?sideLd).mono ?_); (case sideLd => exact laid_below HLd.out (by repeat (first | (with_reducible first | exact HB.out | apply below_alloc | apply pw_below_drewN | apply below_drew1) | exact HB.out))); rintro e w31 ⟨rfl, hb⟩; refine ⟨_, rfl, ?_⟩; have n0_ := Aside0.mk (below_step (by repeat (first | (with_reducible first | exact HB.out | apply below_alloc | apply pw_below_drewN | apply below_drew1) | exact HB.out)) hb); clear HB; have HB := n0_; clear n0_; (try clear hb); (try clear hb2); (try clear hk); (try clear hi)))
                    go_ret
                    exact ⟨by first | rfl | (simp [errW_none, errW_some] <;> rfl) | (simp only [← hji5, ← hji7]; first | rfl | (simp [errW_none, errW_some] <;> rfl)) | (simp [*, errW_none, errW_some] <;> rfl), by repeat (first | (with_reducible first | exact HB.out | apply below_alloc | apply pw_below_drewN | apply below_drew1) | exact HB.out)⟩
                  · replace c25 := Bool.eq_false_iff.mpr c25
                    subst c25
                    have H1 : (none) = some r := by rw [if_neg (show ¬ (false = true) by decide)] at H; exact H
                    clear H
                    have H := H1
                    clear H1
                    exact absurd H (by simp)
                · rw [if_neg c24] at H
                  exact absurd H (by simp)
              · replace c23 := Bool.eq_false_iff.mpr c23
                subst c23
                have H1 : (none) = some r := by rw [if_neg (show ¬ (false = true) by decide)] at H; exact H
                clear H
                have H := H1
                clear H1
                exact absurd H (by simp)
            · rw [if_neg c22] at H
              exact absurd H (by simp)
          · replace c21 := Bool.eq_false_iff.mpr c21
            subst c21
            have H1 : (none) = some r := by rw [if_neg (show ¬ (false = true) by decide)] at H; exact H
            clear H
            have H := H1
            clear H1
            exact absurd H (by simp)
        · replace c20 := Bool.eq_false_iff.mpr c20
          subst c20
          have H1 : (none) = some r := by rw [if_neg (show ¬ (false = true) by decide)] at H; exact H
          clear H
          have H := H1
          clear H1
          exact absurd H (by simp)
    · rw [if_neg c6] at H
      exact absurd H (by simp)
  · replace c4 := Bool.eq_false_iff.mpr c4
    subst c4
    have H1 : (none) = some r := by rw [if_neg (show ¬ (false = true) by decide)] at H; exact H
    clear H
    have H := H1
    clear H1
    exact absurd H (by simp)

/-- THE ONE PURE STATEMENT of archivistlaw03_UnitBack: yours. -/
def archivistlaw03_UnitBack.Pure : Prop := ∀ (a0 : Int) (a1 : Int), (Lit.int .i64 a0).wf = true → (Lit.int .u8 a1).wf = true → ∃ k, archivistlaw03_UnitBack.f k a0 a1 = some true
theorem archivistlaw03_UnitBack.walk (P : archivistlaw03_UnitBack.Pure) (a0 : Int) (a1 : Int) (w : World) (w0 : (Lit.int .i64 a0).wf = true) (w1 : (Lit.int .u8 a1).wf = true) (hLd : Laid w) :
    Calls Tryd.prog 5 #[.int .i64 a0, .int .u8 a1] w fun e w' => e = .returned (.bool true) ∧ Below w.heap.size w w' := by
  obtain ⟨k, h⟩ := P a0 a1 w0 w1
  refine (archivistlaw03_UnitBack.calls k a0 a1 true w h hLd).mono ?_
  rintro e w' ⟨rfl, hd⟩
  exact ⟨rfl, hd⟩

end Go.Proofs.YtpijoadbaocnpaaDoor.X
