-- Laid by xprint.py, a program of this session's, out of the translation.
import Derived.Test.YtpijoadbaocnpaaDoorX0
import Derived.Test.YtpijoadbaocnpaaDoorX1
import Derived.Test.YtpijoadbaocnpaaDoorX3
import Derived.Test.YtpijoadbaocnpaaDoorX5
namespace Go.Proofs.YtpijoadbaocnpaaDoor.X
open Go.RowKit Go.Proofs.YtpijoadbaocnpaaDoorW.PrintWords Go.Proofs.YtpijoadbaocnpaaDoorW.PrintLast Go.Proofs.YtpijoadbaocnpaaDoorW.PrintMore
attribute [local go_sem] max2_int min2_int max_two min_two max_three min_three max_four min_four x_isSome x_str_gtr x_str_leq x_str_geq   -- for this text's walks alone
set_option linter.unusedVariables false
set_option linter.unusedSimpArgs false

/-! ### archivistlaw03_digits: function 20 -/
def archivistlaw03_digits.f (a0 : Int) : Option (ByteArray) := (some (([(48 + (Int.tmod a0 10)) % 256] : List Int) : List Int)).bind fun y300 => (if a0 ≥ 10 then ((some (([48 + (((Int.tdiv a0 10) % 256) % 10)] : List Int) : List Int)).bind fun y303 => (if (strOfNums y303).size + (strOfNums y300).size ≤ 9223372036854775807 then (if a0 ≥ 100 then ((some (([(48 + ((Int.tdiv a0 100) % 256)) % 256] : List Int) : List Int)).bind fun y306 => (if (strOfNums y306).size + ((strOfNums y303) ++ (strOfNums y300)).size ≤ 9223372036854775807 then (some ((strOfNums y306) ++ ((strOfNums y303) ++ (strOfNums y300)))) else (none))) else (some ((strOfNums y303) ++ (strOfNums y300)))) else (none))) else (if a0 ≥ 100 then ((some (([(48 + ((Int.tdiv a0 100) % 256)) % 256] : List Int) : List Int)).bind fun y309 => (if (strOfNums y309).size + (strOfNums y300).size ≤ 9223372036854775807 then (some ((strOfNums y309) ++ (strOfNums y300))) else (none))) else (some (strOfNums y300))))
set_option maxHeartbeats 8000000 in
set_option maxRecDepth 100000 in
theorem archivistlaw03_digits.calls (a0 : Int) (r : ByteArray) (w : World) (h : archivistlaw03_digits.f a0 = some r) :
    Calls Tryd.prog 20 #[.int .u8 a0] w fun e w' => e = .returned (.string r) ∧ Below w.heap.size w w' := by
  have HB := Aside0.mk (Below.refl w.heap.size w)
  have H : ((some (([(48 + (Int.tmod a0 10)) % 256] : List Int) : List Int)).bind fun y300 => (if a0 ≥ 10 then ((some (([48 + (((Int.tdiv a0 10) % 256) % 10)] : List Int) : List Int)).bind fun y303 => (if (strOfNums y303).size + (strOfNums y300).size ≤ 9223372036854775807 then (if a0 ≥ 100 then ((some (([(48 + ((Int.tdiv a0 100) % 256)) % 256] : List Int) : List Int)).bind fun y306 => (if (strOfNums y306).size + ((strOfNums y303) ++ (strOfNums y300)).size ≤ 9223372036854775807 then (some ((strOfNums y306) ++ ((strOfNums y303) ++ (strOfNums y300)))) else (none))) else (some ((strOfNums y303) ++ (strOfNums y300)))) else (none))) else (if a0 ≥ 100 then ((some (([(48 + ((Int.tdiv a0 100) % 256)) % 256] : List Int) : List Int)).bind fun y309 => (if (strOfNums y309).size + (strOfNums y300).size ≤ 9223372036854775807 then (some ((strOfNums y309) ++ (strOfNums y300))) else (none))) else (some (strOfNums y300))))) = some r := h
  clear h
  obtain ⟨y300, hy300⟩ : ∃ y_ : List Int, y_ = (([(48 + (Int.tmod a0 10)) % 256] : List Int)) := ⟨_, rfl⟩
  replace H : (if a0 ≥ 10 then ((some (([48 + (((Int.tdiv a0 10) % 256) % 10)] : List Int) : List Int)).bind fun y303 => (if (strOfNums y303).size + (strOfNums y300).size ≤ 9223372036854775807 then (if a0 ≥ 100 then ((some (([(48 + ((Int.tdiv a0 100) % 256)) % 256] : List Int) : List Int)).bind fun y306 => (if (strOfNums y306).size + ((strOfNums y303) ++ (strOfNums y300)).size ≤ 9223372036854775807 then (some ((strOfNums y306) ++ ((strOfNums y303) ++ (strOfNums y300)))) else (none))) else (some ((strOfNums y303) ++ (strOfNums y300)))) else (none))) else (if a0 ≥ 100 then ((some (([(48 + ((Int.tdiv a0 100) % 256)) % 256] : List Int) : List Int)).bind fun y309 => (if (strOfNums y309).size + (strOfNums y300).size ≤ 9223372036854775807 then (some ((strOfNums y309) ++ (strOfNums y300))) else (none))) else (some (strOfNums y300)))) = some r := by first | (rw [hy300]; with_reducible exact H) | (have H2_ := (Option.bind_some _ _).symm.trans H; rw [hy300]; with_reducible exact H2_) | (have H2_ := (Option.bind_some _ _).symm.trans H; with_reducible exact H2_) | with_reducible exact H | (rw [hy300]; exact H) | exact H
  have Ny300 := Aside0.mk hy300
  clear hy300
  by_cases c2 : a0 ≥ 10
  · rw [if_pos c2] at H
    have c2b0 : decide (10 ≤ a0) = true := decide_eq_true c2
    clear c2
    obtain ⟨y303, hy303⟩ : ∃ y_ : List Int, y_ = (([48 + (((Int.tdiv a0 10) % 256) % 10)] : List Int)) := ⟨_, rfl⟩
    replace H : (if (strOfNums y303).size + (strOfNums y300).size ≤ 9223372036854775807 then (if a0 ≥ 100 then ((some (([(48 + ((Int.tdiv a0 100) % 256)) % 256] : List Int) : List Int)).bind fun y306 => (if (strOfNums y306).size + ((strOfNums y303) ++ (strOfNums y300)).size ≤ 9223372036854775807 then (some ((strOfNums y306) ++ ((strOfNums y303) ++ (strOfNums y300)))) else (none))) else (some ((strOfNums y303) ++ (strOfNums y300)))) else (none)) = some r := by first | (rw [hy303]; with_reducible exact H) | (have H2_ := (Option.bind_some _ _).symm.trans H; rw [hy303]; with_reducible exact H2_) | (have H2_ := (Option.bind_some _ _).symm.trans H; with_reducible exact H2_) | with_reducible exact H | (rw [hy303]; exact H) | exact H
    have Ny303 := Aside0.mk hy303
    clear hy303
    by_cases c3 : (strOfNums y303).size + (strOfNums y300).size ≤ 9223372036854775807
    · rw [if_pos c3] at H
      have c3b0 := eq_true c3
      have c3b1 : decide ((strOfNums y303).size + (strOfNums y300).size ≤ 9223372036854775807) = true := decide_eq_true c3
      try have c3b2 : (9223372036854775807 < (strOfNums y303).size + (strOfNums y300).size) = False := eq_false (Nat.not_lt.2 c3)
      by_cases c4 : a0 ≥ 100
      · rw [if_pos c4] at H
        have c4b0 : decide (100 ≤ a0) = true := decide_eq_true c4
        clear c4
        obtain ⟨y306, hy306⟩ : ∃ y_ : List Int, y_ = (([(48 + ((Int.tdiv a0 100) % 256)) % 256] : List Int)) := ⟨_, rfl⟩
        replace H : (if (strOfNums y306).size + ((strOfNums y303) ++ (strOfNums y300)).size ≤ 9223372036854775807 then (some ((strOfNums y306) ++ ((strOfNums y303) ++ (strOfNums y300)))) else (none)) = some r := by first | (rw [hy306]; with_reducible exact H) | (have H2_ := (Option.bind_some _ _).symm.trans H; rw [hy306]; with_reducible exact H2_) | (have H2_ := (Option.bind_some _ _).symm.trans H; with_reducible exact H2_) | with_reducible exact H | (rw [hy306]; exact H) | exact H
        have Ny306 := Aside0.mk hy306
        clear hy306
        by_cases c5 : (strOfNums y306).size + ((strOfNums y303) ++ (strOfNums y300)).size ≤ 9223372036854775807
        · rw [if_pos c5] at H
          have c5b0 := eq_true c5
          have c5b1 : decide ((strOfNums y306).size + ((strOfNums y303) ++ (strOfNums y300)).size ≤ 9223372036854775807) = true := decide_eq_true c5
          try have c5b2 : (9223372036854775807 < (strOfNums y306).size + ((strOfNums y303) ++ (strOfNums y300)).size) = False := eq_false (Nat.not_lt.2 c5)
          try (have c5b3 : (9223372036854775807 < (strOfNums y306).size + ((strOfNums y303) ++ (strOfNums y300)).size) = False := eq_false (Nat.not_lt.2 c5); simp only [ByteArray.size_append, Nat.add_zero, Nat.zero_add] at c5b3)
          obtain rfl := Option.some.inj H
          go_enter Tryd.func20, Tryd.ntmps20
          go_wp2_with (first | ((with_reducible refine gate_dst (N := 7) rfl ?_); refine Kd.R_lit (Kd.int .u8) _ 5 ?hg (N := 7) ?hd (xs := ([(48 + (Int.tmod a0 10)) % 256] : List Int)) (inner := [.int .u8 ((48 + (Int.tmod a0 10)) % 256)]) (ok := fun _ => True) (okp := fun _ => True) ?hr ?hp (fun _ hk => hk) trivial (Below.refl _ _) (Nat.le_refl _) (by simp) ?_; (case hd => rfl); (case hg => rfl); (case hr => first | (go_simp; done) | (go_simp; rfl)); (case hp => exact (Reps.one (show Kd.M (Kd.int .u8) _ _ _ ((48 + (Int.tmod a0 10)) % 256) [.int .u8 ((48 + (Int.tmod a0 10)) % 256)] from rfl) (Reps.none _ _))); intro v301 w6 ho7 hb hg_ hnew_; clear hg_ hnew_; (first | rw [← Ny300.out] at ho7 | (simp only [Int.reduceToNat] at ho7; rw [← Ny300.out] at ho7)); have n0_ := Aside0.mk (Kd.R_lower ho7 (below_size (by repeat (first | (with_reducible first | exact HB.out | apply below_alloc | apply pw_below_drewN | apply below_drew1) | exact HB.out)))); have n1_ := Aside0.mk (below_step (by repeat (first | (with_reducible first | exact HB.out | apply below_alloc | apply pw_below_drewN | apply below_drew1) | exact HB.out)) hb); clear HB; have HO302 := n0_; have HB := n1_; clear n0_ n1_; clear hb ho7; have hcv8 := own_string (P := Tryd.prog) Tryd.underlying22 Tryd.underlying5 Tryd.underlying9 (Kd.own_of_R HO302.out)) | ((with_reducible refine gate_dst (N := 15) rfl ?_); refine Kd.R_lit (Kd.int .u8) _ 5 ?hg (N := 15) ?hd (xs := ([48 + (((Int.tdiv a0 10) % 256) % 10)] : List Int)) (inner := [.int .u8 (48 + (((Int.tdiv a0 10) % 256) % 10))]) (ok := fun _ => True) (okp := fun _ => True) ?hr ?hp (fun _ hk => hk) trivial (Below.refl _ _) (Nat.le_refl _) (by simp) ?_; (case hd => rfl); (case hg => rfl); (case hr => first | (go_simp; done) | (go_simp; rfl)); (case hp => exact (Reps.one (show Kd.M (Kd.int .u8) _ _ _ (48 + (((Int.tdiv a0 10) % 256) % 10)) [.int .u8 (48 + (((Int.tdiv a0 10) % 256) % 10))] from rfl) (Reps.none _ _))); intro v304 w9 ho10 hb hg_ hnew_; clear hg_ hnew_; (first | rw [← Ny303.out] at ho10 | (simp only [Int.reduceToNat] at ho10; rw [← Ny303.out] at ho10)); have n0_ := Aside0.mk (Kd.R_elder' (by (with_reducible repeat (first | apply Kd.R_alloc | apply Kd.R_drewN | apply Kd.R_drew)); exact HO302.out) (Kd.R_base ho10) hb); have n1_ := Aside0.mk (Kd.R_lower (Kd.R_new' ho10 (Kd.R_lt (by (with_reducible repeat (first | apply Kd.R_alloc | apply Kd.R_drewN | apply Kd.R_drew)); exact HO302.out))) (below_size (by repeat (first | (with_reducible first | exact HB.out | apply below_alloc | apply pw_below_drewN | apply below_drew1) | exact HB.out)))); have n2_ := Aside0.mk (below_step (by repeat (first | (with_reducible first | exact HB.out | apply below_alloc | apply pw_below_drewN | apply below_drew1) | exact HB.out)) hb); clear HO302; clear HB; have HO302 := n0_; have HO305 := n1_; have HB := n2_; clear n0_ n1_ n2_; clear hb ho10; have hcv11 := own_string (P := Tryd.prog) Tryd.underlying22 Tryd.underlying5 Tryd.underlying9 (Kd.own_of_R HO305.out)) | ((with_reducible refine gate_dst (N := 24) rfl ?_); refine Kd.R_lit (Kd.int .u8) _ 5 ?hg (N := 24) ?hd (xs := ([(48 + ((Int.tdiv a0 100) % 256)) % 256] : List Int)) (inner := [.int .u8 ((48 + ((Int.tdiv a0 100) % 256)) % 256)]) (ok := fun _ => True) (okp := fun _ => True) ?hr ?hp (fun _ hk => hk) trivial (Below.refl _ _) (Nat.le_refl _) (by simp) ?_; (case hd => rfl); (case hg => rfl); (case hr => first | (go_simp; done) | (go_simp; rfl)); (case hp => exact (Reps.one (show Kd.M (Kd.int .u8) _ _ _ ((48 + ((Int.tdiv a0 100) % 256)) % 256) [.int .u8 ((48 + ((Int.tdiv a0 100) % 256)) % 256)] from rfl) (Reps.none _ _))); intro v307 w12 ho13 hb hg_ hnew_; clear hg_ hnew_; (first | rw [← Ny306.out] at ho13 | (simp only [Int.reduceToNat] at ho13; rw [← Ny306.out] at ho13)); have n0_ := Aside0.mk (Kd.R_elder' (by (with_reducible repeat (first | apply Kd.R_alloc | apply Kd.R_drewN | apply Kd.R_drew)); exact HO302.out) (Kd.R_base ho13) hb); have n1_ := Aside0.mk (Kd.R_elder' (by (with_reducible repeat (first | apply Kd.R_alloc | apply Kd.R_drewN | apply Kd.R_drew)); exact HO305.out) (Kd.R_base ho13) hb); have n2_ := Aside0.mk (Kd.R_lower (Kd.R_new' (Kd.R_new' ho13 (Kd.R_lt (by (with_reducible repeat (first | apply Kd.R_alloc | apply Kd.R_drewN | apply Kd.R_drew)); exact HO302.out))) (Kd.R_lt (by (with_reducible repeat (first | apply Kd.R_alloc | apply Kd.R_drewN | apply Kd.R_drew)); exact HO305.out))) (below_size (by repeat (first | (with_reducible first | exact HB.out | apply below_alloc | apply pw_below_drewN | apply below_drew1) | exact HB.out)))); have n3_ := Aside0.mk (below_step (by repeat (first | (with_reducible first | exact HB.out | apply below_alloc | apply pw_below_drewN | apply below_drew1) | exact HB.out)) hb); clear HO302; clear HO305; clear HB; have HO302 := n0_; have HO305 := n1_; have HO308 := n2_; have HB := n3_; clear n0_ n1_ n2_ n3_; clear hb ho13; have hcv14 := own_string (P := Tryd.prog) Tryd.underlying22 Tryd.underlying5 Tryd.underlying9 (Kd.own_of_R HO308.out)))
          go_ret
          exact ⟨by first | rfl | (simp [errW_none, errW_some] <;> rfl) | (simp [*, errW_none, errW_some] <;> rfl), by repeat (first | (with_reducible first | exact HB.out | apply below_alloc | apply pw_below_drewN | apply below_drew1) | exact HB.out)⟩
        · rw [if_neg c5] at H
          exact absurd H (by simp)
      · rw [if_neg c4] at H
        have c4b0 : decide (100 ≤ a0) = false := decide_eq_false c4
        clear c4
        obtain rfl := Option.some.inj H
        go_enter Tryd.func20, Tryd.ntmps20
        go_wp2_with (first | ((with_reducible refine gate_dst (N := 7) rfl ?_); refine Kd.R_lit (Kd.int .u8) _ 5 ?hg (N := 7) ?hd (xs := ([(48 + (Int.tmod a0 10)) % 256] : List Int)) (inner := [.int .u8 ((48 + (Int.tmod a0 10)) % 256)]) (ok := fun _ => True) (okp := fun _ => True) ?hr ?hp (fun _ hk => hk) trivial (Below.refl _ _) (Nat.le_refl _) (by simp) ?_; (case hd => rfl); (case hg => rfl); (case hr => first | (go_simp; done) | (go_simp; rfl)); (case hp => exact (Reps.one (show Kd.M (Kd.int .u8) _ _ _ ((48 + (Int.tmod a0 10)) % 256) [.int .u8 ((48 + (Int.tmod a0 10)) % 256)] from rfl) (Reps.none _ _))); intro v301 w15 ho16 hb hg_ hnew_; clear hg_ hnew_; (first | rw [← Ny300.out] at ho16 | (simp only [Int.reduceToNat] at ho16; rw [← Ny300.out] at ho16)); have n0_ := Aside0.mk (Kd.R_lower ho16 (below_size (by repeat (first | (with_reducible first | exact HB.out | apply below_alloc | apply pw_below_drewN | apply below_drew1) | exact HB.out)))); have n1_ := Aside0.mk (below_step (by repeat (first | (with_reducible first | exact HB.out | apply below_alloc | apply pw_below_drewN | apply below_drew1) | exact HB.out)) hb); clear HB; have HO302 := n0_; have HB := n1_; clear n0_ n1_; clear hb ho16; have hcv17 := own_string (P := Tryd.prog) Tryd.underlying22 Tryd.underlying5 Tryd.underlying9 (Kd.own_of_R HO302.out)) | ((with_reducible refine gate_dst (N := 15) rfl ?_); refine Kd.R_lit (Kd.int .u8) _ 5 ?hg (N := 15) ?hd (xs := ([48 + (((Int.tdiv a0 10) % 256) % 10)] : List Int)) (inner := [.int .u8 (48 + (((Int.tdiv a0 10) % 256) % 10))]) (ok := fun _ => True) (okp := fun _ => True) ?hr ?hp (fun _ hk => hk) trivial (Below.refl _ _) (Nat.le_refl _) (by simp) ?_; (case hd => rfl); (case hg => rfl); (case hr => first | (go_simp; done) | (go_simp; rfl)); (case hp => exact (Reps.one (show Kd.M (Kd.int .u8) _ _ _ (48 + (((Int.tdiv a0 10) % 256) % 10)) [.int .u8 (48 + (((Int.tdiv a0 10) % 256) % 10))] from rfl) (Reps.none _ _))); intro v304 w18 ho19 hb hg_ hnew_; clear hg_ hnew_; (first | rw [← Ny303.out] at ho19 | (simp only [Int.reduceToNat] at ho19; rw [← Ny303.out] at ho19)); have n0_ := Aside0.mk (Kd.R_elder' (by (with_reducible repeat (first | apply Kd.R_alloc | apply Kd.R_drewN | apply Kd.R_drew)); exact HO302.out) (Kd.R_base ho19) hb); have n1_ := Aside0.mk (Kd.R_lower (Kd.R_new' ho19 (Kd.R_lt (by (with_reducible repeat (first | apply Kd.R_alloc | apply Kd.R_drewN | apply Kd.R_drew)); exact HO302.out))) (below_size (by repeat (first | (with_reducible first | exact HB.out | apply below_alloc | apply pw_below_drewN | apply below_drew1) | exact HB.out)))); have n2_ := Aside0.mk (below_step (by repeat (first | (with_reducible first | exact HB.out | apply below_alloc | apply pw_below_drewN | apply below_drew1) | exact HB.out)) hb); clear HO302; clear HB; have HO302 := n0_; have HO305 := n1_; have HB := n2_; clear n0_ n1_ n2_; clear hb ho19; have hcv20 := own_string (P := Tryd.prog) Tryd.underlying22 Tryd.underlying5 Tryd.underlying9 (Kd.own_of_R HO305.out)))
        go_ret
        exact ⟨by first | rfl | (simp [errW_none, errW_some] <;> rfl) | (simp [*, errW_none, errW_some] <;> rfl), by repeat (first | (with_reducible first | exact HB.out | apply below_alloc | apply pw_below_drewN | apply below_drew1) | exact HB.out)⟩
    · rw [if_neg c3] at H
      exact absurd H (by simp)
  · rw [if_neg c2] at H
    have c2b0 : decide (10 ≤ a0) = false := decide_eq_false c2
    clear c2
    by_cases c21 : a0 ≥ 100
    · rw [if_pos c21] at H
      have c21b0 : decide (100 ≤ a0) = true := decide_eq_true c21
      clear c21
      obtain ⟨y309, hy309⟩ : ∃ y_ : List Int, y_ = (([(48 + ((Int.tdiv a0 100) % 256)) % 256] : List Int)) := ⟨_, rfl⟩
      replace H : (if (strOfNums y309).size + (strOfNums y300).size ≤ 9223372036854775807 then (some ((strOfNums y309) ++ (strOfNums y300))) else (none)) = some r := by first | (rw [hy309]; with_reducible exact H) | (have H2_ := (Option.bind_some _ _).symm.trans H; rw [hy309]; with_reducible exact H2_) | (have H2_ := (Option.bind_some _ _).symm.trans H; with_reducible exact H2_) | with_reducible exact H | (rw [hy309]; exact H) | exact H
      have Ny309 := Aside0.mk hy309
      clear hy309
      by_cases c22 : (strOfNums y309).size + (strOfNums y300).size ≤ 9223372036854775807
      · rw [if_pos c22] at H
        have c22b0 := eq_true c22
        have c22b1 : decide ((strOfNums y309).size + (strOfNums y300).size ≤ 9223372036854775807) = true := decide_eq_true c22
        try have c22b2 : (9223372036854775807 < (strOfNums y309).size + (strOfNums y300).size) = False := eq_false (Nat.not_lt.2 c22)
        obtain rfl := Option.some.inj H
        go_enter Tryd.func20, Tryd.ntmps20
        go_wp2_with (first | ((with_reducible refine gate_dst (N := 7) rfl ?_); refine Kd.R_lit (Kd.int .u8) _ 5 ?hg (N := 7) ?hd (xs := ([(48 + (Int.tmod a0 10)) % 256] : List Int)) (inner := [.int .u8 ((48 + (Int.tmod a0 10)) % 256)]) (ok := fun _ => True) (okp := fun _ => True) ?hr ?hp (fun _ hk => hk) trivial (Below.refl _ _) (Nat.le_refl _) (by simp) ?_; (case hd => rfl); (case hg => rfl); (case hr => first | (go_simp; done) | (go_simp; rfl)); (case hp => exact (Reps.one (show Kd.M (Kd.int .u8) _ _ _ ((48 + (Int.tmod a0 10)) % 256) [.int .u8 ((48 + (Int.tmod a0 10)) % 256)] from rfl) (Reps.none _ _))); intro v301 w23 ho24 hb hg_ hnew_; clear hg_ hnew_; (first | rw [← Ny300.out] at ho24 | (simp only [Int.reduceToNat] at ho24; rw [← Ny300.out] at ho24)); have n0_ := Aside0.mk (Kd.R_lower ho24 (below_size (by repeat (first | (with_reducible first | exact HB.out | apply below_alloc | apply pw_below_drewN | apply below_drew1) | exact HB.out)))); have n1_ := Aside0.mk (below_step (by repeat (first | (with_reducible first | exact HB.out | apply below_alloc | apply pw_below_drewN | apply below_drew1) | exact HB.out)) hb); clear HB; have HO302 := n0_; have HB := n1_; clear n0_ n1_; clear hb ho24; have hcv25 := own_string (P := Tryd.prog) Tryd.underlying22 Tryd.underlying5 Tryd.underlying9 (Kd.own_of_R HO302.out)) | ((with_reducible refine gate_dst (N := 24) rfl ?_); refine Kd.R_lit (Kd.int .u8) _ 5 ?hg (N := 24) ?hd (xs := ([(48 + ((Int.tdiv a0 100) % 256)) % 256] : List Int)) (inner := [.int .u8 ((48 + ((Int.tdiv a0 100) % 256)) % 256)]) (ok := fun _ => True) (okp := fun _ => True) ?hr ?hp (fun _ hk => hk) trivial (Below.refl _ _) (Nat.le_refl _) (by simp) ?_; (case hd => rfl); (case hg => rfl); (case hr => first | (go_simp; done) | (go_simp; rfl)); (case hp => exact (Reps.one (show Kd.M (Kd.int .u8) _ _ _ ((48 + ((Int.tdiv a0 100) % 256)) % 256) [.int .u8 ((48 + ((Int.tdiv a0 100) % 256)) % 256)] from rfl) (Reps.none _ _))); intro v310 w26 ho27 hb hg_ hnew_; clear hg_ hnew_; (first | rw [← Ny309.out] at ho27 | (simp only [Int.reduceToNat] at ho27; rw [← Ny309.out] at ho27)); have n0_ := Aside0.mk (Kd.R_elder' (by (with_reducible repeat (first | apply Kd.R_alloc | apply Kd.R_drewN | apply Kd.R_drew)); exact HO302.out) (Kd.R_base ho27) hb); have n1_ := Aside0.mk (Kd.R_lower (Kd.R_new' ho27 (Kd.R_lt (by (with_reducible repeat (first | apply Kd.R_alloc | apply Kd.R_drewN | apply Kd.R_drew)); exact HO302.out))) (below_size (by repeat (first | (with_reducible first | exact HB.out | apply below_alloc | apply pw_below_drewN | apply below_drew1) | exact HB.out)))); have n2_ := Aside0.mk (below_step (by repeat (first | (with_reducible first | exact HB.out | apply below_alloc | apply pw_below_drewN | apply below_drew1) | exact HB.out)) hb); clear HO302; clear HB; have HO302 := n0_; have HO311 := n1_; have HB := n2_; clear n0_ n1_ n2_; clear hb ho27; have hcv28 := own_string (P := Tryd.prog) Tryd.underlying22 Tryd.underlying5 Tryd.underlying9 (Kd.own_of_R HO311.out)))
        go_ret
        exact ⟨by first | rfl | (simp [errW_none, errW_some] <;> rfl) | (simp [*, errW_none, errW_some] <;> rfl), by repeat (first | (with_reducible first | exact HB.out | apply below_alloc | apply pw_below_drewN | apply below_drew1) | exact HB.out)⟩
      · rw [if_neg c22] at H
        exact absurd H (by simp)
    · rw [if_neg c21] at H
      have c21b0 : decide (100 ≤ a0) = false := decide_eq_false c21
      clear c21
      obtain rfl := Option.some.inj H
      go_enter Tryd.func20, Tryd.ntmps20
      go_wp2_with (first | ((with_reducible refine gate_dst (N := 7) rfl ?_); refine Kd.R_lit (Kd.int .u8) _ 5 ?hg (N := 7) ?hd (xs := ([(48 + (Int.tmod a0 10)) % 256] : List Int)) (inner := [.int .u8 ((48 + (Int.tmod a0 10)) % 256)]) (ok := fun _ => True) (okp := fun _ => True) ?hr ?hp (fun _ hk => hk) trivial (Below.refl _ _) (Nat.le_refl _) (by simp) ?_; (case hd => rfl); (case hg => rfl); (case hr => first | (go_simp; done) | (go_simp; rfl)); (case hp => exact (Reps.one (show Kd.M (Kd.int .u8) _ _ _ ((48 + (Int.tmod a0 10)) % 256) [.int .u8 ((48 + (Int.tmod a0 10)) % 256)] from rfl) (Reps.none _ _))); intro v301 w29 ho30 hb hg_ hnew_; clear hg_ hnew_; (first | rw [← Ny300.out] at ho30 | (simp only [Int.reduceToNat] at ho30; rw [← Ny300.out] at ho30)); have n0_ := Aside0.mk (Kd.R_lower ho30 (below_size (by repeat (first | (with_reducible first | exact HB.out | apply below_alloc | apply pw_below_drewN | apply below_drew1) | exact HB.out)))); have n1_ := Aside0.mk (below_step (by repeat (first | (with_reducible first | exact HB.out | apply below_alloc | apply pw_below_drewN | apply below_drew1) | exact HB.out)) hb); clear HB; have HO302 := n0_; have HB := n1_; clear n0_ n1_; clear hb ho30; have hcv31 := own_string (P := Tryd.prog) Tryd.underlying22 Tryd.underlying5 Tryd.underlying9 (Kd.own_of_R HO302.out)))
      go_ret
      exact ⟨by first | rfl | (simp [errW_none, errW_some] <;> rfl) | (simp [*, errW_none, errW_some] <;> rfl), by repeat (first | (with_reducible first | exact HB.out | apply below_alloc | apply pw_below_drewN | apply below_drew1) | exact HB.out)⟩

/-! ### archivistlaw03_UnitOrder: function 6 -/
def archivistlaw03_UnitOrder.f (k : Nat) (a0 : Int) (a1 : Int) (a2 : Int) : Option (Bool) := (archivistlaw03_examples.f k).bind fun t312 => (if t312 = true then ((archivistlaw03_digits.f a0).bind fun t313 => (if t313.size + 1 ≤ 9223372036854775807 then ((archivistlaw03_digits.f a1).bind fun t314 => (if t314.size + 1 ≤ 9223372036854775807 then ((archivistlaw03_digits.f a2).bind fun t315 => (if t315.size + 1 ≤ 9223372036854775807 then (if (t313 ++ (⟨#[104]⟩ : ByteArray)).size + (t314 ++ (⟨#[109]⟩ : ByteArray)).size ≤ 9223372036854775807 then (if ((t313 ++ (⟨#[104]⟩ : ByteArray)) ++ (t314 ++ (⟨#[109]⟩ : ByteArray))).size + (t315 ++ (⟨#[115]⟩ : ByteArray)).size ≤ 9223372036854775807 then ((unit_Duration.f k (((t313 ++ (⟨#[104]⟩ : ByteArray)) ++ (t314 ++ (⟨#[109]⟩ : ByteArray))) ++ (t315 ++ (⟨#[115]⟩ : ByteArray)))).bind fun bt316 => (if (t314 ++ (⟨#[109]⟩ : ByteArray)).size + (t313 ++ (⟨#[104]⟩ : ByteArray)).size ≤ 9223372036854775807 then ((unit_Duration.f k ((t314 ++ (⟨#[109]⟩ : ByteArray)) ++ (t313 ++ (⟨#[104]⟩ : ByteArray)))).bind fun bt318 => (if (t315 ++ (⟨#[115]⟩ : ByteArray)).size + (t315 ++ (⟨#[115]⟩ : ByteArray)).size ≤ 9223372036854775807 then ((unit_Duration.f k ((t315 ++ (⟨#[115]⟩ : ByteArray)) ++ (t315 ++ (⟨#[115]⟩ : ByteArray)))).bind fun bt320 => ((unit_Duration.f k (t314 ++ (⟨#[109]⟩ : ByteArray))).bind fun bt322 => (if bt316.2 = true then (if bt316.1 = (wrap64 ((wrap64 ((wrap64 ((wrap64 ((wrap64 (a0)) * 3600)) + (wrap64 ((wrap64 (a1)) * 60)))) + (wrap64 (a2)))) * 1000000000)) then (if bt318.2 = true then (none) else (if bt320.2 = true then (none) else (if bt322.2 = true then (some (bt322.1 == (wrap64 ((wrap64 (a1)) * 60000000000)))) else (none)))) else (none)) else (none)))) else (none))) else (none))) else (none)) else (none)) else (none))) else (none))) else (none))) else (none))
theorem archivistlaw03_UnitOrder.mono : ∀ a0 a1 a2 k, LeO (archivistlaw03_UnitOrder.f k a0 a1 a2) (archivistlaw03_UnitOrder.f (k + 1) a0 a1 a2) := by
  intro a0 a1 a2 k
  unfold archivistlaw03_UnitOrder.f
  repeat' first
      | (with_reducible exact archivistlaw03_examples.mono _)
      | (with_reducible exact unit_Duration.mono _ _)
      | (with_reducible exact LeO.refl _)
      | (with_reducible exact LeO.none _)
      | (with_reducible refine LeO.ite ?_ ?_)
      | (with_reducible refine LeO.bind ?_ (fun _ => ?_))
      | exact archivistlaw03_examples.mono _
      | exact unit_Duration.mono _ _
      | exact LeO.none _
      | refine LeO.ite ?_ ?_
      | refine LeO.bind ?_ (fun _ => ?_)
set_option maxHeartbeats 8000000 in
set_option maxRecDepth 100000 in
theorem archivistlaw03_UnitOrder.calls (k : Nat) (a0 : Int) (a1 : Int) (a2 : Int) (r : Bool) (w : World) (h : archivistlaw03_UnitOrder.f k a0 a1 a2 = some r) (hLd : Laid w) :
    Calls Tryd.prog 6 #[.int .u8 a0, .int .u8 a1, .int .u8 a2] w fun e w' => e = .returned (.bool r) ∧ Below w.heap.size w w' := by
  have HLd := Aside0.mk hLd
  clear hLd
  have HB := Aside0.mk (Below.refl w.heap.size w)
  have H : ((archivistlaw03_examples.f k).bind fun t312 => (if t312 = true then ((archivistlaw03_digits.f a0).bind fun t313 => (if t313.size + 1 ≤ 9223372036854775807 then ((archivistlaw03_digits.f a1).bind fun t314 => (if t314.size + 1 ≤ 9223372036854775807 then ((archivistlaw03_digits.f a2).bind fun t315 => (if t315.size + 1 ≤ 9223372036854775807 then (if (t313 ++ (⟨#[104]⟩ : ByteArray)).size + (t314 ++ (⟨#[109]⟩ : ByteArray)).size ≤ 9223372036854775807 then (if ((t313 ++ (⟨#[104]⟩ : ByteArray)) ++ (t314 ++ (⟨#[109]⟩ : ByteArray))).size + (t315 ++ (⟨#[115]⟩ : ByteArray)).size ≤ 9223372036854775807 then ((unit_Duration.f k (((t313 ++ (⟨#[104]⟩ : ByteArray)) ++ (t314 ++ (⟨#[109]⟩ : ByteArray))) ++ (t315 ++ (⟨#[115]⟩ : ByteArray)))).bind fun bt316 => (if (t314 ++ (⟨#[109]⟩ : ByteArray)).size + (t313 ++ (⟨#[104]⟩ : ByteArray)).size ≤ 9223372036854775807 then ((unit_Duration.f k ((t314 ++ (⟨#[109]⟩ : ByteArray)) ++ (t313 ++ (⟨#[104]⟩ : ByteArray)))).bind fun bt318 => (if (t315 ++ (⟨#[115]⟩ : ByteArray)).size + (t315 ++ (⟨#[115]⟩ : ByteArray)).size ≤ 9223372036854775807 then ((unit_Duration.f k ((t315 ++ (⟨#[115]⟩ : ByteArray)) ++ (t315 ++ (⟨#[115]⟩ : ByteArray)))).bind fun bt320 => ((unit_Duration.f k (t314 ++ (⟨#[109]⟩ : ByteArray))).bind fun bt322 => (if bt316.2 = true then (if bt316.1 = (wrap64 ((wrap64 ((wrap64 ((wrap64 ((wrap64 (a0)) * 3600)) + (wrap64 ((wrap64 (a1)) * 60)))) + (wrap64 (a2)))) * 1000000000)) then (if bt318.2 = true then (none) else (if bt320.2 = true then (none) else (if bt322.2 = true then (some (bt322.1 == (wrap64 ((wrap64 (a1)) * 60000000000)))) else (none)))) else (none)) else (none)))) else (none))) else (none))) else (none)) else (none)) else (none))) else (none))) else (none))) else (none))) = some r := h
  clear h
  replace H := Option.bind_eq_some_iff.mp H
  obtain ⟨t312, A40, H⟩ := H
  replace H : (if t312 = true then ((archivistlaw03_digits.f a0).bind fun t313 => (if t313.size + 1 ≤ 9223372036854775807 then ((archivistlaw03_digits.f a1).bind fun t314 => (if t314.size + 1 ≤ 9223372036854775807 then ((archivistlaw03_digits.f a2).bind fun t315 => (if t315.size + 1 ≤ 9223372036854775807 then (if (t313 ++ (⟨#[104]⟩ : ByteArray)).size + (t314 ++ (⟨#[109]⟩ : ByteArray)).size ≤ 9223372036854775807 then (if ((t313 ++ (⟨#[104]⟩ : ByteArray)) ++ (t314 ++ (⟨#[109]⟩ : ByteArray))).size + (t315 ++ (⟨#[115]⟩ : ByteArray)).size ≤ 9223372036854775807 then ((unit_Duration.f k (((t313 ++ (⟨#[104]⟩ : ByteArray)) ++ (t314 ++ (⟨#[109]⟩ : ByteArray))) ++ (t315 ++ (⟨#[115]⟩ : ByteArray)))).bind fun bt316 => (if (t314 ++ (⟨#[109]⟩ : ByteArray)).size + (t313 ++ (⟨#[104]⟩ : ByteArray)).size ≤ 9223372036854775807 then ((unit_Duration.f k ((t314 ++ (⟨#[109]⟩ : ByteArray)) ++ (t313 ++ (⟨#[104]⟩ : ByteArray)))).bind fun bt318 => (if (t315 ++ (⟨#[115]⟩ : ByteArray)).size + (t315 ++ (⟨#[115]⟩ : ByteArray)).size ≤ 9223372036854775807 then ((unit_Duration.f k ((t315 ++ (⟨#[115]⟩ : ByteArray)) ++ (t315 ++ (⟨#[115]⟩ : ByteArray)))).bind fun bt320 => ((unit_Duration.f k (t314 ++ (⟨#[109]⟩ : ByteArray))).bind fun bt322 => (if bt316.2 = true then (if bt316.1 = (wrap64 ((wrap64 ((wrap64 ((wrap64 ((wrap64 (a0)) * 3600)) + (wrap64 ((wrap64 (a1)) * 60)))) + (wrap64 (a2)))) * 1000000000)) then (if bt318.2 = true then (none) else (if bt320.2 = true then (none) else (if bt322.2 = true then (some (bt322.1 == (wrap64 ((wrap64 (a1)) * 60000000000)))) else (none)))) else (none)) else (none)))) else (none))) else (none))) else (none)) else (none)) else (none))) else (none))) else (none))) else (none)) = some r := H
  have A4 := Aside0.mk A40
  clear A40
  by_cases c5 : t312 = true
  · subst c5
    have H1 : ((archivistlaw03_digits.f a0).bind fun t313 => (if t313.size + 1 ≤ 9223372036854775807 then ((archivistlaw03_digits.f a1).bind fun t314 => (if t314.size + 1 ≤ 9223372036854775807 then ((archivistlaw03_digits.f a2).bind fun t315 => (if t315.size + 1 ≤ 9223372036854775807 then (if (t313 ++ (⟨#[104]⟩ : ByteArray)).size + (t314 ++ (⟨#[109]⟩ : ByteArray)).size ≤ 9223372036854775807 then (if ((t313 ++ (⟨#[104]⟩ : ByteArray)) ++ (t314 ++ (⟨#[109]⟩ : ByteArray))).size + (t315 ++ (⟨#[115]⟩ : ByteArray)).size ≤ 9223372036854775807 then ((unit_Duration.f k (((t313 ++ (⟨#[104]⟩ : ByteArray)) ++ (t314 ++ (⟨#[109]⟩ : ByteArray))) ++ (t315 ++ (⟨#[115]⟩ : ByteArray)))).bind fun bt316 => (if (t314 ++ (⟨#[109]⟩ : ByteArray)).size + (t313 ++ (⟨#[104]⟩ : ByteArray)).size ≤ 9223372036854775807 then ((unit_Duration.f k ((t314 ++ (⟨#[109]⟩ : ByteArray)) ++ (t313 ++ (⟨#[104]⟩ : ByteArray)))).bind fun bt318 => (if (t315 ++ (⟨#[115]⟩ : ByteArray)).size + (t315 ++ (⟨#[115]⟩ : ByteArray)).size ≤ 9223372036854775807 then ((unit_Duration.f k ((t315 ++ (⟨#[115]⟩ : ByteArray)) ++ (t315 ++ (⟨#[115]⟩ : ByteArray)))).bind fun bt320 => ((unit_Duration.f k (t314 ++ (⟨#[109]⟩ : ByteArray))).bind fun bt322 => (if bt316.2 = true then (if bt316.1 = (wrap64 ((wrap64 ((wrap64 ((wrap64 ((wrap64 (a0)) * 3600)) + (wrap64 ((wrap64 (a1)) * 60)))) + (wrap64 (a2)))) * 1000000000)) then (if bt318.2 = true then (none) else (if bt320.2 = true then (none) else (if bt322.2 = true then (some (bt322.1 == (wrap64 ((wrap64 (a1)) * 60000000000)))) else (none)))) else (none)) else (none)))) else (none))) else (none))) else (none)) else (none)) else (none))) else (none))) else (none))) = some r := by rw [if_pos rfl] at H; exact H
    clear H
    have H := H1
    clear H1
    replace H := Option.bind_eq_some_iff.mp H
    obtain ⟨t313, A60, H⟩ := H
    replace H : (if t313.size + 1 ≤ 9223372036854775807 then ((archivistlaw03_digits.f a1).bind fun t314 => (if t314.size + 1 ≤ 9223372036854775807 then ((archivistlaw03_digits.f a2).bind fun t315 => (if t315.size + 1 ≤ 9223372036854775807 then (if (t313 ++ (⟨#[104]⟩ : ByteArray)).size + (t314 ++ (⟨#[109]⟩ : ByteArray)).size ≤ 9223372036854775807 then (if ((t313 ++ (⟨#[104]⟩ : ByteArray)) ++ (t314 ++ (⟨#[109]⟩ : ByteArray))).size + (t315 ++ (⟨#[115]⟩ : ByteArray)).size ≤ 9223372036854775807 then ((unit_Duration.f k (((t313 ++ (⟨#[104]⟩ : ByteArray)) ++ (t314 ++ (⟨#[109]⟩ : ByteArray))) ++ (t315 ++ (⟨#[115]⟩ : ByteArray)))).bind fun bt316 => (if (t314 ++ (⟨#[109]⟩ : ByteArray)).size + (t313 ++ (⟨#[104]⟩ : ByteArray)).size ≤ 9223372036854775807 then ((unit_Duration.f k ((t314 ++ (⟨#[109]⟩ : ByteArray)) ++ (t313 ++ (⟨#[104]⟩ : ByteArray)))).bind fun bt318 => (if (t315 ++ (⟨#[115]⟩ : ByteArray)).size + (t315 ++ (⟨#[115]⟩ : ByteArray)).size ≤ 9223372036854775807 then ((unit_Duration.f k ((t315 ++ (⟨#[115]⟩ : ByteArray)) ++ (t315 ++ (⟨#[115]⟩ : ByteArray)))).bind fun bt320 => ((unit_Duration.f k (t314 ++ (⟨#[109]⟩ : ByteArray))).bind fun bt322 => (if bt316.2 = true then (if bt316.1 = (wrap64 ((wrap64 ((wrap64 ((wrap64 ((wrap64 (a0)) * 3600)) + (wrap64 ((wrap64 (a1)) * 60)))) + (wrap64 (a2)))) * 1000000000)) then (if bt318.2 = true then (none) else (if bt320.2 = true then (none) else (if bt322.2 = true then (some (bt322.1 == (wrap64 ((wrap64 (a1)) * 60000000000)))) else (none)))) else (none)) else (none)))) else (none))) else (none))) else (none)) else (none)) else (none))) else (none))) else (none)) = some r := H
    have A6 := Aside0.mk A60
    clear A60
    by_cases c7 : t313.size + 1 ≤ 9223372036854775807
    · rw [if_pos c7] at H
      have c7b0 := eq_true c7
      have c7b1 : decide (t313.size + 1 ≤ 9223372036854775807) = true := decide_eq_true c7
      try have c7b2 : (9223372036854775807 < t313.size + 1) = False := eq_false (Nat.not_lt.2 c7)
      replace H := Option.bind_eq_some_iff.mp H
      obtain ⟨t314, A80, H⟩ := H
      replace H : (if t314.size + 1 ≤ 9223372036854775807 then ((archivistlaw03_digits.f a2).bind fun t315 => (if t315.size + 1 ≤ 9223372036854775807 then (if (t313 ++ (⟨#[104]⟩ : ByteArray)).size + (t314 ++ (⟨#[109]⟩ : ByteArray)).size ≤ 9223372036854775807 then (if ((t313 ++ (⟨#[104]⟩ : ByteArray)) ++ (t314 ++ (⟨#[109]⟩ : ByteArray))).size + (t315 ++ (⟨#[115]⟩ : ByteArray)).size ≤ 9223372036854775807 then ((unit_Duration.f k (((t313 ++ (⟨#[104]⟩ : ByteArray)) ++ (t314 ++ (⟨#[109]⟩ : ByteArray))) ++ (t315 ++ (⟨#[115]⟩ : ByteArray)))).bind fun bt316 => (if (t314 ++ (⟨#[109]⟩ : ByteArray)).size + (t313 ++ (⟨#[104]⟩ : ByteArray)).size ≤ 9223372036854775807 then ((unit_Duration.f k ((t314 ++ (⟨#[109]⟩ : ByteArray)) ++ (t313 ++ (⟨#[104]⟩ : ByteArray)))).bind fun bt318 => (if (t315 ++ (⟨#[115]⟩ : ByteArray)).size + (t315 ++ (⟨#[115]⟩ : ByteArray)).size ≤ 9223372036854775807 then ((unit_Duration.f k ((t315 ++ (⟨#[115]⟩ : ByteArray)) ++ (t315 ++ (⟨#[115]⟩ : ByteArray)))).bind fun bt320 => ((unit_Duration.f k (t314 ++ (⟨#[109]⟩ : ByteArray))).bind fun bt322 => (if bt316.2 = true then (if bt316.1 = (wrap64 ((wrap64 ((wrap64 ((wrap64 ((wrap64 (a0)) * 3600)) + (wrap64 ((wrap64 (a1)) * 60)))) + (wrap64 (a2)))) * 1000000000)) then (if bt318.2 = true then (none) else (if bt320.2 = true then (none) else (if bt322.2 = true then (some (bt322.1 == (wrap64 ((wrap64 (a1)) * 60000000000)))) else (none)))) else (none)) else (none)))) else (none))) else (none))) else (none)) else (none)) else (none))) else (none)) = some r := H
      have A8 := Aside0.mk A80
      clear A80
      by_cases c9 : t314.size + 1 ≤ 9223372036854775807
      · rw [if_pos c9] at H
        have c9b0 := eq_true c9
        have c9b1 : decide (t314.size + 1 ≤ 9223372036854775807) = true := decide_eq_true c9
        try have c9b2 : (9223372036854775807 < t314.size + 1) = False := eq_false (Nat.not_lt.2 c9)
        replace H := Option.bind_eq_some_iff.mp H
        obtain ⟨t315, A100, H⟩ := H
        replace H : (if t315.size + 1 ≤ 9223372036854775807 then (if (t313 ++ (⟨#[104]⟩ : ByteArray)).size + (t314 ++ (⟨#[109]⟩ : ByteArray)).size ≤ 9223372036854775807 then (if ((t313 ++ (⟨#[104]⟩ : ByteArray)) ++ (t314 ++ (⟨#[109]⟩ : ByteArray))).size + (t315 ++ (⟨#[115]⟩ : ByteArray)).size ≤ 9223372036854775807 then ((unit_Duration.f k (((t313 ++ (⟨#[104]⟩ : ByteArray)) ++ (t314 ++ (⟨#[109]⟩ : ByteArray))) ++ (t315 ++ (⟨#[115]⟩ : ByteArray)))).bind fun bt316 => (if (t314 ++ (⟨#[109]⟩ : ByteArray)).size + (t313 ++ (⟨#[104]⟩ : ByteArray)).size ≤ 9223372036854775807 then ((unit_Duration.f k ((t314 ++ (⟨#[109]⟩ : ByteArray)) ++ (t313 ++ (⟨#[104]⟩ : ByteArray)))).bind fun bt318 => (if (t315 ++ (⟨#[115]⟩ : ByteArray)).size + (t315 ++ (⟨#[115]⟩ : ByteArray)).size ≤ 9223372036854775807 then ((unit_Duration.f k ((t315 ++ (⟨#[115]⟩ : ByteArray)) ++ (t315 ++ (⟨#[115]⟩ : ByteArray)))).bind fun bt320 => ((unit_Duration.f k (t314 ++ (⟨#[109]⟩ : ByteArray))).bind fun bt322 => (if bt316.2 = true then (if bt316.1 = (wrap64 ((wrap64 ((wrap64 ((wrap64 ((wrap64 (a0)) * 3600)) + (wrap64 ((wrap64 (a1)) * 60)))) + (wrap64 (a2)))) * 1000000000)) then (if bt318.2 = true then (none) else (if bt320.2 = true then (none) else (if bt322.2 = true then (some (bt322.1 == (wrap64 ((wrap64 (a1)) * 60000000000)))) else (none)))) else (none)) else (none)))) else (none))) else (none))) else (none)) else (none)) else (none)) = some r := H
        have A10 := Aside0.mk A100
        clear A100
        by_cases c11 : t315.size + 1 ≤ 9223372036854775807
        · rw [if_pos c11] at H
          have c11b0 := eq_true c11
          have c11b1 : decide (t315.size + 1 ≤ 9223372036854775807) = true := decide_eq_true c11
          try have c11b2 : (9223372036854775807 < t315.size + 1) = False := eq_false (Nat.not_lt.2 c11)
          by_cases c12 : (t313 ++ (⟨#[104]⟩ : ByteArray)).size + (t314 ++ (⟨#[109]⟩ : ByteArray)).size ≤ 9223372036854775807
          · rw [if_pos c12] at H
            have c12b0 := eq_true c12
            have c12b1 : decide ((t313 ++ (⟨#[104]⟩ : ByteArray)).size + (t314 ++ (⟨#[109]⟩ : ByteArray)).size ≤ 9223372036854775807) = true := decide_eq_true c12
            try have c12b2 : (9223372036854775807 < (t313 ++ (⟨#[104]⟩ : ByteArray)).size + (t314 ++ (⟨#[109]⟩ : ByteArray)).size) = False := eq_false (Nat.not_lt.2 c12)
            try (have c12b3 : (9223372036854775807 < (t313 ++ (⟨#[104]⟩ : ByteArray)).size + (t314 ++ (⟨#[109]⟩ : ByteArray)).size) = False := eq_false (Nat.not_lt.2 c12); simp only [ByteArray.size_append, show (⟨#[104]⟩ : ByteArray).size = 1 from rfl, show (⟨#[109]⟩ : ByteArray).size = 1 from rfl, Nat.add_zero, Nat.zero_add] at c12b3)
            by_cases c13 : ((t313 ++ (⟨#[104]⟩ : ByteArray)) ++ (t314 ++ (⟨#[109]⟩ : ByteArray))).size + (t315 ++ (⟨#[115]⟩ : ByteArray)).size ≤ 9223372036854775807
            · rw [if_pos c13] at H
              have c13b0 := eq_true c13
              have c13b1 : decide (((t313 ++ (⟨#[104]⟩ : ByteArray)) ++ (t314 ++ (⟨#[109]⟩ : ByteArray))).size + (t315 ++ (⟨#[115]⟩ : ByteArray)).size ≤ 9223372036854775807) = true := decide_eq_true c13
              try have c13b2 : (9223372036854775807 < ((t313 ++ (⟨#[104]⟩ : ByteArray)) ++ (t314 ++ (⟨#[109]⟩ : ByteArray))).size + (t315 ++ (⟨#[115]⟩ : ByteArray)).size) = False := eq_false (Nat.not_lt.2 c13)
              try (have c13b3 : (9223372036854775807 < ((t313 ++ (⟨#[104]⟩ : ByteArray)) ++ (t314 ++ (⟨#[109]⟩ : ByteArray))).size + (t315 ++ (⟨#[115]⟩ : ByteArray)).size) = False := eq_false (Nat.not_lt.2 c13); simp only [ByteArray.size_append, show (⟨#[104]⟩ : ByteArray).size = 1 from rfl, show (⟨#[109]⟩ : ByteArray).size = 1 from rfl, show (⟨#[115]⟩ : ByteArray).size = 1 from rfl, Nat.add_zero, Nat.zero_add] at c13b3)
              replace H := Option.bind_eq_some_iff.mp H
              obtain ⟨⟨t316, t317⟩, A140, H⟩ := H
              replace H : (if (t314 ++ (⟨#[109]⟩ : ByteArray)).size + (t313 ++ (⟨#[104]⟩ : ByteArray)).size ≤ 9223372036854775807 then ((unit_Duration.f k ((t314 ++ (⟨#[109]⟩ : ByteArray)) ++ (t313 ++ (⟨#[104]⟩ : ByteArray)))).bind fun bt318 => (if (t315 ++ (⟨#[115]⟩ : ByteArray)).size + (t315 ++ (⟨#[115]⟩ : ByteArray)).size ≤ 9223372036854775807 then ((unit_Duration.f k ((t315 ++ (⟨#[115]⟩ : ByteArray)) ++ (t315 ++ (⟨#[115]⟩ : ByteArray)))).bind fun bt320 => ((unit_Duration.f k (t314 ++ (⟨#[109]⟩ : ByteArray))).bind fun bt322 => (if t317 = true then (if t316 = (wrap64 ((wrap64 ((wrap64 ((wrap64 ((wrap64 (a0)) * 3600)) + (wrap64 ((wrap64 (a1)) * 60)))) + (wrap64 (a2)))) * 1000000000)) then (if bt318.2 = true then (none) else (if bt320.2 = true then (none) else (if bt322.2 = true then (some (bt322.1 == (wrap64 ((wrap64 (a1)) * 60000000000)))) else (none)))) else (none)) else (none)))) else (none))) else (none)) = some r := H
              have A14 := Aside0.mk A140
              clear A140
              by_cases c15 : (t314 ++ (⟨#[109]⟩ : ByteArray)).size + (t313 ++ (⟨#[104]⟩ : ByteArray)).size ≤ 9223372036854775807
              · rw [if_pos c15] at H
                have c15b0 := eq_true c15
                have c15b1 : decide ((t314 ++ (⟨#[109]⟩ : ByteArray)).size + (t313 ++ (⟨#[104]⟩ : ByteArray)).size ≤ 9223372036854775807) = true := decide_eq_true c15
                try have c15b2 : (9223372036854775807 < (t314 ++ (⟨#[109]⟩ : ByteArray)).size + (t313 ++ (⟨#[104]⟩ : ByteArray)).size) = False := eq_false (Nat.not_lt.2 c15)
                try (have c15b3 : (9223372036854775807 < (t314 ++ (⟨#[109]⟩ : ByteArray)).size + (t313 ++ (⟨#[104]⟩ : ByteArray)).size) = False := eq_false (Nat.not_lt.2 c15); simp only [ByteArray.size_append, show (⟨#[104]⟩ : ByteArray).size = 1 from rfl, show (⟨#[109]⟩ : ByteArray).size = 1 from rfl, Nat.add_zero, Nat.zero_add] at c15b3)
                replace H := Option.bind_eq_some_iff.mp H
                obtain ⟨⟨t318, t319⟩, A160, H⟩ := H
                replace H : (if (t315 ++ (⟨#[115]⟩ : ByteArray)).size + (t315 ++ (⟨#[115]⟩ : ByteArray)).size ≤ 9223372036854775807 then ((unit_Duration.f k ((t315 ++ (⟨#[115]⟩ : ByteArray)) ++ (t315 ++ (⟨#[115]⟩ : ByteArray)))).bind fun bt320 => ((unit_Duration.f k (t314 ++ (⟨#[109]⟩ : ByteArray))).bind fun bt322 => (if t317 = true then (if t316 = (wrap64 ((wrap64 ((wrap64 ((wrap64 ((wrap64 (a0)) * 3600)) + (wrap64 ((wrap64 (a1)) * 60)))) + (wrap64 (a2)))) * 1000000000)) then (if t319 = true then (none) else (if bt320.2 = true then (none) else (if bt322.2 = true then (some (bt322.1 == (wrap64 ((wrap64 (a1)) * 60000000000)))) else (none)))) else (none)) else (none)))) else (none)) = some r := H
                have A16 := Aside0.mk A160
                clear A160
                by_cases c17 : (t315 ++ (⟨#[115]⟩ : ByteArray)).size + (t315 ++ (⟨#[115]⟩ : ByteArray)).size ≤ 9223372036854775807
                · rw [if_pos c17] at H
                  have c17b0 := eq_true c17
                  have c17b1 : decide ((t315 ++ (⟨#[115]⟩ : ByteArray)).size + (t315 ++ (⟨#[115]⟩ : ByteArray)).size ≤ 9223372036854775807) = true := decide_eq_true c17
                  try have c17b2 : (9223372036854775807 < (t315 ++ (⟨#[115]⟩ : ByteArray)).size + (t315 ++ (⟨#[115]⟩ : ByteArray)).size) = False := eq_false (Nat.not_lt.2 c17)
                  try (have c17b3 : (9223372036854775807 < (t315 ++ (⟨#[115]⟩ : ByteArray)).size + (t315 ++ (⟨#[115]⟩ : ByteArray)).size) = False := eq_false (Nat.not_lt.2 c17); simp only [ByteArray.size_append, show (⟨#[115]⟩ : ByteArray).size = 1 from rfl, Nat.add_zero, Nat.zero_add] at c17b3)
                  replace H := Option.bind_eq_some_iff.mp H
                  obtain ⟨⟨t320, t321⟩, A180, H⟩ := H
                  replace H : ((unit_Duration.f k (t314 ++ (⟨#[109]⟩ : ByteArray))).bind fun bt322 => (if t317 = true then (if t316 = (wrap64 ((wrap64 ((wrap64 ((wrap64 ((wrap64 (a0)) * 3600)) + (wrap64 ((wrap64 (a1)) * 60)))) + (wrap64 (a2)))) * 1000000000)) then (if t319 = true then (none) else (if t321 = true then (none) else (if bt322.2 = true then (some (bt322.1 == (wrap64 ((wrap64 (a1)) * 60000000000)))) else (none)))) else (none)) else (none))) = some r := H
                  have A18 := Aside0.mk A180
                  clear A180
                  replace H := Option.bind_eq_some_iff.mp H
                  obtain ⟨⟨t322, t323⟩, A190, H⟩ := H
                  replace H : (if t317 = true then (if t316 = (wrap64 ((wrap64 ((wrap64 ((wrap64 ((wrap64 (a0)) * 3600)) + (wrap64 ((wrap64 (a1)) * 60)))) + (wrap64 (a2)))) * 1000000000)) then (if t319 = true then (none) else (if t321 = true then (none) else (if t323 = true then (some (t322 == (wrap64 ((wrap64 (a1)) * 60000000000)))) else (none)))) else (none)) else (none)) = some r := H
                  have A19 := Aside0.mk A190
                  clear A190
                  by_cases c20 : t317 = true
                  · subst c20
                    have H1 : (if t316 = (wrap64 ((wrap64 ((wrap64 ((wrap64 ((wrap64 (a0)) * 3600)) + (wrap64 ((wrap64 (a1)) * 60)))) + (wrap64 (a2)))) * 1000000000)) then (if t319 = true then (none) else (if t321 = true then (none) else (if t323 = true then (some (t322 == (wrap64 ((wrap64 (a1)) * 60000000000)))) else (none)))) else (none)) = some r := by rw [if_pos rfl] at H; exact H
                    clear H
                    have H := H1
                    clear H1
                    by_cases c21 : t316 = (wrap64 ((wrap64 ((wrap64 ((wrap64 ((wrap64 (a0)) * 3600)) + (wrap64 ((wrap64 (a1)) * 60)))) + (wrap64 (a2)))) * 1000000000))
                    · rw [if_pos c21] at H
                      have c21b0 : (t316 == (wrap64 ((wrap64 ((wrap64 ((wrap64 ((wrap64 (a0)) * 3600)) + (wrap64 ((wrap64 (a1)) * 60)))) + (wrap64 (a2)))) * 1000000000))) = true := beq_iff_eq.mpr c21
                      have c21b1 : (t316 != (wrap64 ((wrap64 ((wrap64 ((wrap64 ((wrap64 (a0)) * 3600)) + (wrap64 ((wrap64 (a1)) * 60)))) + (wrap64 (a2)))) * 1000000000))) = false := bne_eq_false_iff_eq.mpr c21
                      clear c21
                      by_cases c22 : t319 = true
                      · subst c22
                        have H1 : (none) = some r := by rw [if_pos rfl] at H; exact H
                        clear H
                        have H := H1
                        clear H1
                        exact absurd H (by simp)
                      · replace c22 := Bool.eq_false_iff.mpr c22
                        subst c22
                        have H1 : (if t321 = true then (none) else (if t323 = true then (some (t322 == (wrap64 ((wrap64 (a1)) * 60000000000)))) else (none))) = some r := by rw [if_neg (show ¬ (false = true) by decide)] at H; exact H
                        clear H
                        have H := H1
                        clear H1
                        by_cases c23 : t321 = true
                        · subst c23
                          have H1 : (none) = some r := by rw [if_pos rfl] at H; exact H
                          clear H
                          have H := H1
                          clear H1
                          exact absurd H (by simp)
                        · replace c23 := Bool.eq_false_iff.mpr c23
                          subst c23
                          have H1 : (if t323 = true then (some (t322 == (wrap64 ((wrap64 (a1)) * 60000000000)))) else (none)) = some r := by rw [if_neg (show ¬ (false = true) by decide)] at H; exact H
                          clear H
                          have H := H1
                          clear H1
                          by_cases c24 : t323 = true
                          · subst c24
                            have H1 : (some (t322 == (wrap64 ((wrap64 (a1)) * 60000000000)))) = some r := by rw [if_pos rfl] at H; exact H
                            clear H
                            have H := H1
                            clear H1
                            obtain rfl := Option.some.inj H
                            go_enter Tryd.func6, Tryd.ntmps6
                            go_wp2_with (first | ((with_reducible refine gate_callee (f := 10) rfl ?_); refine goesL_ (some 19) rfl rfl Tryd.func10 (by kernel_rfl) rfl #[] rfl (by (try simp only [List.map_toArray, List.map_cons, List.map_nil]); first | done | rfl | (simp only [List.length_drop, List.length_take]; rfl)) ?_; (with_reducible refine (archivistlaw03_examples.calls k  true _ A4.out ?sideLd).mono ?_); (case sideLd => exact laid_below HLd.out (by repeat (first | (with_reducible first | exact HB.out | apply below_alloc | apply pw_below_drewN | apply below_drew1) | exact HB.out))); rintro e w25 ⟨rfl, hb⟩; refine ⟨_, rfl, ?_⟩; have n0_ := Aside0.mk (below_step (by repeat (first | (with_reducible first | exact HB.out | apply below_alloc | apply pw_below_drewN | apply below_drew1) | exact HB.out)) hb); clear HB; have HB := n0_; clear n0_; (try clear hb); (try clear hb2); (try clear hk); (try clear hi)) | ((with_reducible refine gate_callee (f := 20) rfl ?_); refine goesL_ (some 23) rfl rfl Tryd.func20 (by kernel_rfl) rfl #[.int .u8 a0] rfl (by (try simp only [List.map_toArray, List.map_cons, List.map_nil]); first | done | rfl | (simp only [List.length_drop, List.length_take]; rfl)) ?_; (with_reducible refine (archivistlaw03_digits.calls a0 t313 _ A6.out).mono ?_); rintro e w26 ⟨rfl, hb⟩; refine ⟨_, rfl, ?_⟩; have n0_ := Aside0.mk (below_step (by repeat (first | (with_reducible first | exact HB.out | apply below_alloc | apply pw_below_drewN | apply below_drew1) | exact HB.out)) hb); clear HB; have HB := n0_; clear n0_; (try clear hb); (try clear hb2); (try clear hk); (try clear hi)) | ((with_reducible refine gate_callee (f := 20) rfl ?_); refine goesL_ (some 26) rfl rfl Tryd.func20 (by kernel_rfl) rfl #[.int .u8 a1] rfl (by (try simp only [List.map_toArray, List.map_cons, List.map_nil]); first | done | rfl | (simp only [List.length_drop, List.length_take]; rfl)) ?_; (with_reducible refine (archivistlaw03_digits.calls a1 t314 _ A8.out).mono ?_); rintro e w27 ⟨rfl, hb⟩; refine ⟨_, rfl, ?_⟩; have n0_ := Aside0.mk (below_step (by repeat (first | (with_reducible first | exact HB.out | apply below_alloc | apply pw_below_drewN | apply below_drew1) | exact HB.out)) hb); clear HB; have HB := n0_; clear n0_; (try clear hb); (try clear hb2); (try clear hk); (try clear hi)) | ((with_reducible refine gate_callee (f := 20) rfl ?_); refine goesL_ (some 29) rfl rfl Tryd.func20 (by kernel_rfl) rfl #[.int .u8 a2] rfl (by (try simp only [List.map_toArray, List.map_cons, List.map_nil]); first | done | rfl | (simp only [List.length_drop, List.length_take]; rfl)) ?_; (with_reducible refine (archivistlaw03_digits.calls a2 t315 _ A10.out).mono ?_); rintro e w28 ⟨rfl, hb⟩; refine ⟨_, rfl, ?_⟩; have n0_ := Aside0.mk (below_step (by repeat (first | (with_reducible first | exact HB.out | apply below_alloc | apply pw_below_drewN | apply below_drew1) | exact HB.out)) hb); clear HB; have HB := n0_; clear n0_; (try clear hb); (try clear hb2); (try clear hk); (try clear hi)) | ((with_reducible refine gate_callee (f := 12) rfl ?_); refine goesL_ (some 37) rfl rfl Tryd.func12 (by kernel_rfl) rfl #[.string (((t313 ++ (⟨#[104]⟩ : ByteArray)) ++ (t314 ++ (⟨#[109]⟩ : ByteArray))) ++ (t315 ++ (⟨#[115]⟩ : ByteArray)))] rfl (by (try simp only [List.map_toArray, List.map_cons, List.map_nil]); first | done | rfl | (simp only [List.length_drop, List.length_take]; rfl)) ?_; (with_reducible refine (unit_Duration.calls k (((t313 ++ (⟨#[104]⟩ : ByteArray)) ++ (t314 ++ (⟨#[109]⟩ : ByteArray))) ++ (t315 ++ (⟨#[115]⟩ : ByteArray))) t316 true _ A14.out ?sideLd).mono ?_); (case sideLd => exact laid_below HLd.out (by repeat (first | (with_reducible first | exact HB.out | apply below_alloc | apply pw_below_drewN | apply below_drew1) | exact HB.out))); rintro e w29 ⟨rfl, hb⟩; refine ⟨_, rfl, ?_⟩; have n0_ := Aside0.mk (below_step (by repeat (first | (with_reducible first | exact HB.out | apply below_alloc | apply pw_below_drewN | apply below_drew1) | exact HB.out)) hb); clear HB; have HB := n0_; clear n0_; (try clear hb); (try clear hb2); (try clear hk); (try clear hi)) | ((with_reducible refine gate_callee (f := 12) rfl ?_); refine goesL_ (some 44) rfl rfl Tryd.func12 (by kernel_rfl) rfl #[.string ((t314 ++ (⟨#[109]⟩ : ByteArray)) ++ (t313 ++ (⟨#[104]⟩ : ByteArray)))] rfl (by (try simp only [List.map_toArray, List.map_cons, List.map_nil]); first | done | rfl | (simp only [List.length_drop, List.length_take]; rfl)) ?_; (with_reducible refine (unit_Duration.calls k ((t314 ++ (⟨#[109]⟩ : ByteArray)) ++ (t313 ++ (⟨#[104]⟩ : ByteArray))) t318 false _ A16.out ?sideLd).mono ?_); (case sideLd => exact laid_below HLd.out (by repeat (first | (with_reducible first | exact HB.out | apply below_alloc | apply pw_below_drewN | apply below_drew1) | exact HB.out))); rintro e w30 ⟨rfl, hb⟩; refine ⟨_, rfl, ?_⟩; have n0_ := Aside0.mk (below_step (by repeat (first | (with_reducible first | exact HB.out | apply below_alloc | apply pw_below_drewN | apply below_drew1) | exact HB.out)) hb); clear HB; have HB := n0_; clear n0_; (try clear hb); (try clear hb2); (try clear hk); (try clear hi)) | ((with_reducible refine gate_callee (f := 12) rfl ?_); refine goesL_ (some 51) rfl rfl Tryd.func12 (by kernel_rfl) rfl #[.string ((t315 ++ (⟨#[115]⟩ : ByteArray)) ++ (t315 ++ (⟨#[115]⟩ : ByteArray)))] rfl (by (try simp only [List.map_toArray, List.map_cons, List.map_nil]); first | done | rfl | (simp only [List.length_drop, List.length_take]; rfl)) ?_; (with_reducible refine (unit_Duration.calls k ((t315 ++ (⟨#[115]⟩ : ByteArray)) ++ (t315 ++ (⟨#[115]⟩ : ByteArray))) t320 false _ A18.out ?sideLd).mono ?_); (case sideLd => exact laid_below HLd.out (by repeat (first | (with_reducible first | exact HB.out | apply below_alloc | apply pw_below_drewN | apply below_drew1) | exact HB.out))); rintro e w31 ⟨rfl, hb⟩; refine ⟨_, rfl, ?_⟩; have n0_ := Aside0.mk (below_step (by repeat (first | (with_reducible first | exact HB.out | apply below_alloc | apply pw_below_drewN | apply below_drew1) | exact HB.out)) hb); clear HB; have HB := n0_; clear n0_; (try clear hb); (try clear hb2); (try clear hk); (try clear hi)) | ((with_reducible refine gate_callee (f := 12) rfl ?_); refine goesL_ (some 56) rfl rfl Tryd.func12 (by kernel_rfl) rfl #[.string (t314 ++ (⟨#[109]⟩ : ByteArray))] rfl (by (try simp only [List.map_toArray, List.map_cons, List.map_nil]); first | done | rfl | (simp only [List.length_drop, List.length_take]; rfl)) ?_; (with_reducible refine (unit_Duration.calls k (t314 ++ (⟨#[109]⟩ : ByteArray)) t322 true _ A19.out ?sideLd).mono ?_); (case sideLd => exact laid_below HLd.out (by repeat (first | (with_reducible first | exact HB.out | apply below_alloc | apply pw_below_drewN | apply below_drew1) | exact HB.out))); rintro e w32 ⟨rfl, hb⟩; refine ⟨_, rfl, ?_⟩; have n0_ := Aside0.mk (below_step (by repeat (first | (with_reducible first | exact HB.out | apply below_alloc | apply pw_below_drewN | apply below_drew1) | exact HB.out)) hb); clear HB; have HB := n0_; clear n0_; (try clear hb); (try clear hb2); (try clear hk); (try clear hi)))
                            go_ret
                            exact ⟨by first | rfl | (simp [errW_none, errW_some] <;> rfl) | (simp [*, errW_none, errW_some] <;> rfl), by repeat (first | (with_reducible first | exact HB.out | apply below_alloc | apply pw_below_drewN | apply below_drew1) | exact HB.out)⟩
                          · replace c24 := Bool.eq_false_iff.mpr c24
                            subst c24
                            have H1 : (none) = some r := by rw [if_neg (show ¬ (false = true) by decide)] at H; exact H
                            clear H
                            have H := H1
                            clear H1
                            exact absurd H (by simp)
                    · rw [if_neg c21] at H
                      exact absurd H (by simp)
                  · replace c20 := Bool.eq_false_iff.mpr c20
                    subst c20
                    have H1 : (none) = some r := by rw [if_neg (show ¬ (false = true) by decide)] at H; exact H
                    clear H
                    have H := H1
                    clear H1
                    exact absurd H (by simp)
                · rw [if_neg c17] at H
                  exact absurd H (by simp)
              · rw [if_neg c15] at H
                exact absurd H (by simp)
            · rw [if_neg c13] at H
              exact absurd H (by simp)
          · rw [if_neg c12] at H
            exact absurd H (by simp)
        · rw [if_neg c11] at H
          exact absurd H (by simp)
      · rw [if_neg c9] at H
        exact absurd H (by simp)
    · rw [if_neg c7] at H
      exact absurd H (by simp)
  · replace c5 := Bool.eq_false_iff.mpr c5
    subst c5
    have H1 : (none) = some r := by rw [if_neg (show ¬ (false = true) by decide)] at H; exact H
    clear H
    have H := H1
    clear H1
    exact absurd H (by simp)

/-- THE ONE PURE STATEMENT of archivistlaw03_UnitOrder: yours. -/
def archivistlaw03_UnitOrder.Pure : Prop := ∀ (a0 : Int) (a1 : Int) (a2 : Int), (Lit.int .u8 a0).wf = true → (Lit.int .u8 a1).wf = true → (Lit.int .u8 a2).wf = true → ∃ k, archivistlaw03_UnitOrder.f k a0 a1 a2 = some true
theorem archivistlaw03_UnitOrder.walk (P : archivistlaw03_UnitOrder.Pure) (a0 : Int) (a1 : Int) (a2 : Int) (w : World) (w0 : (Lit.int .u8 a0).wf = true) (w1 : (Lit.int .u8 a1).wf = true) (w2 : (Lit.int .u8 a2).wf = true) (hLd : Laid w) :
    Calls Tryd.prog 6 #[.int .u8 a0, .int .u8 a1, .int .u8 a2] w fun e w' => e = .returned (.bool true) ∧ Below w.heap.size w w' := by
  obtain ⟨k, h⟩ := P a0 a1 a2 w0 w1 w2
  refine (archivistlaw03_UnitOrder.calls k a0 a1 a2 true w h hLd).mono ?_
  rintro e w' ⟨rfl, hd⟩
  exact ⟨rfl, hd⟩

/-! ### archivistlaw03_long: function 21 -/
def archivistlaw03_long.l0 : Nat → Int → ByteArray → Option (ByteArray)
  | 0, _, _ => none
  | k + 1, x0, x3 => if x3.toList = ([] : List UInt8) then ((some (([(48 + ((Int.tmod x0 10) % 256)) % 256] : List Int) : List Int)).bind fun y324 => (if (strOfNums y324).size + x3.size ≤ 9223372036854775807 then (archivistlaw03_long.l0 k ((Int.tdiv x0 10) % 4294967296) ((strOfNums y324) ++ x3)) else (none))) else (if x0 > 0 then ((some (([(48 + ((Int.tmod x0 10) % 256)) % 256] : List Int) : List Int)).bind fun y327 => (if (strOfNums y327).size + x3.size ≤ 9223372036854775807 then (archivistlaw03_long.l0 k ((Int.tdiv x0 10) % 4294967296) ((strOfNums y327) ++ x3)) else (none))) else (some x3))
def archivistlaw03_long.f (k : Nat) (a0 : Int) : Option (ByteArray) := archivistlaw03_long.l0 k a0 (⟨#[]⟩ : ByteArray)
theorem archivistlaw03_long.mono_l : ∀ k, (∀ y0 y1, LeO (archivistlaw03_long.l0 k y0 y1) (archivistlaw03_long.l0 (k + 1) y0 y1))
  | 0 => fun _ _ r h => by simp [archivistlaw03_long.l0] at h
  | k + 1 => by
    have ih0 := archivistlaw03_long.mono_l k
    · intro y0 y1
      unfold archivistlaw03_long.l0
      repeat' first
      | (with_reducible exact ih0 _ _)
      | (with_reducible exact LeO.refl _)
      | (with_reducible exact LeO.none _)
      | (with_reducible refine LeO.ite ?_ ?_)
      | (with_reducible refine LeO.bind ?_ (fun _ => ?_))
      | exact ih0 _ _
      | exact LeO.none _
      | refine LeO.ite ?_ ?_
      | refine LeO.bind ?_ (fun _ => ?_)
theorem archivistlaw03_long.mono : ∀ a0 k, LeO (archivistlaw03_long.f k a0) (archivistlaw03_long.f (k + 1) a0) := by
  intro a0 k
  have ih0 := archivistlaw03_long.mono_l k
  unfold archivistlaw03_long.f
  repeat' first
      | (with_reducible exact ih0 _ _)
      | (with_reducible exact LeO.refl _)
      | (with_reducible exact LeO.none _)
      | (with_reducible refine LeO.ite ?_ ?_)
      | (with_reducible refine LeO.bind ?_ (fun _ => ?_))
      | exact ih0 _ _
      | exact LeO.none _
      | refine LeO.ite ?_ ?_
      | refine LeO.bind ?_ (fun _ => ?_)
set_option maxHeartbeats 8000000 in
set_option maxRecDepth 100000 in
theorem archivistlaw03_long.calls (k : Nat) (a0 : Int) (r : ByteArray) (w : World) (h : archivistlaw03_long.f k a0 = some r) :
    Calls Tryd.prog 21 #[.int .u32 a0] w fun e w' => e = .returned (.string r) ∧ Below w.heap.size w w' := by
  have HB := Aside0.mk (Below.refl w.heap.size w)
  have H : (archivistlaw03_long.l0 k a0 (⟨#[]⟩ : ByteArray)) = some r := h
  clear h
  have H' := Aside0.mk H
  clear H
  go_enter Tryd.func21, Tryd.ntmps21
  go_wp2
  go_loopg [0, 3] k (fun kq v0 v3 w' => ∃ (x0_1 : Int) (x3_1 : ByteArray), v0 = .int .u32 x0_1 ∧ v3 = .string x3_1 ∧ Aside0 (archivistlaw03_long.l0 kq x0_1 x3_1 = some r) ∧ Aside0 (kq ≤ k) ∧ Aside0 (Below w.heap.size w w'))
  case atStart => exact ⟨(a0), ((⟨#[]⟩ : ByteArray)), (by first | rfl | (simp; done) | (simp [*]; done)), (by first | rfl | (simp; done) | (simp [*]; done)), H', ⟨Nat.le_refl _⟩, ⟨by repeat (first | (with_reducible first | exact HB.out | apply below_alloc | apply pw_below_drewN | apply below_drew1) | exact HB.out)⟩⟩
  case round =>
    clear H'
    obtain ⟨x0_1, x3_1, rfl, rfl, HA, HK1, HB⟩ := hrel
    cases gk with
    | zero => exact absurd HA.out (by simp [archivistlaw03_long.l0])
    | succ k1 =>
      have H := HA.out
      clear HA
      simp only [archivistlaw03_long.l0] at H
      by_cases c2 : x3_1.toList = ([] : List UInt8)
      · rw [if_pos c2] at H
        have c2b0 : (x3_1.toList == ([] : List UInt8)) = true := beq_iff_eq.mpr c2
        have c2b1 : (x3_1.toList != ([] : List UInt8)) = false := bne_eq_false_iff_eq.mpr c2
        clear c2
        obtain ⟨y324, hy324⟩ : ∃ y_ : List Int, y_ = (([(48 + ((Int.tmod x0_1 10) % 256)) % 256] : List Int)) := ⟨_, rfl⟩
        replace H : (if (strOfNums y324).size + x3_1.size ≤ 9223372036854775807 then (archivistlaw03_long.l0 k1 ((Int.tdiv x0_1 10) % 4294967296) ((strOfNums y324) ++ x3_1)) else (none)) = some r := by first | (rw [hy324]; with_reducible exact H) | (have H2_ := (Option.bind_some _ _).symm.trans H; rw [hy324]; with_reducible exact H2_) | (have H2_ := (Option.bind_some _ _).symm.trans H; with_reducible exact H2_) | with_reducible exact H | (rw [hy324]; exact H) | exact H
        have Ny324 := Aside0.mk hy324
        clear hy324
        by_cases c3 : (strOfNums y324).size + x3_1.size ≤ 9223372036854775807
        · rw [if_pos c3] at H
          have c3b0 := eq_true c3
          have c3b1 : decide ((strOfNums y324).size + x3_1.size ≤ 9223372036854775807) = true := decide_eq_true c3
          try have c3b2 : (9223372036854775807 < (strOfNums y324).size + x3_1.size) = False := eq_false (Nat.not_lt.2 c3)
          have H' := Aside0.mk H
          clear H
          go_wp2_with (first | ((with_reducible refine gate_dst (N := 14) rfl ?_); refine Kd.R_lit (Kd.int .u8) _ 5 ?hg (N := 14) ?hd (xs := ([(48 + ((Int.tmod x0_1 10) % 256)) % 256] : List Int)) (inner := [.int .u8 ((48 + ((Int.tmod x0_1 10) % 256)) % 256)]) (ok := fun _ => True) (okp := fun _ => True) ?hr ?hp (fun _ hk => hk) trivial (Below.refl _ _) (Nat.le_refl _) (by simp) ?_; (case hd => rfl); (case hg => rfl); (case hr => first | (go_simp; done) | (go_simp; rfl)); (case hp => exact (Reps.one (show Kd.M (Kd.int .u8) _ _ _ ((48 + ((Int.tmod x0_1 10) % 256)) % 256) [.int .u8 ((48 + ((Int.tmod x0_1 10) % 256)) % 256)] from rfl) (Reps.none _ _))); intro v325 w4 ho5 hb hg_ hnew_; clear hg_ hnew_; (first | rw [← Ny324.out] at ho5 | (simp only [Int.reduceToNat] at ho5; rw [← Ny324.out] at ho5)); have n0_ := Aside0.mk (Kd.R_lower ho5 (below_size (by repeat (first | (with_reducible first | exact HB.out | apply below_alloc | apply pw_below_drewN | apply below_drew1) | exact HB.out)))); have n1_ := Aside0.mk (below_step (by repeat (first | (with_reducible first | exact HB.out | apply below_alloc | apply pw_below_drewN | apply below_drew1) | exact HB.out)) hb); clear HB; have HO326 := n0_; have HB := n1_; clear n0_ n1_; clear hb ho5; have hcv6 := own_string (P := Tryd.prog) Tryd.underlying22 Tryd.underlying5 Tryd.underlying9 (Kd.own_of_R HO326.out)))
          go_roundg k1
          case measure => have := HK1.out; omega
          case rel => exact ⟨((Int.tdiv x0_1 10) % 4294967296), ((strOfNums y324) ++ x3_1), (by first | rfl | (simp; done) | (simp [*]; done)), (by first | rfl | (simp; done) | (simp [*]; done)), H', ⟨by have := HK1.out; omega⟩, ⟨by repeat (first | (with_reducible first | exact HB.out | apply below_alloc | apply pw_below_drewN | apply below_drew1) | exact HB.out)⟩⟩
        · rw [if_neg c3] at H
          exact absurd H (by simp)
      · rw [if_neg c2] at H
        have c2b0 : (x3_1.toList == ([] : List UInt8)) = false := beq_eq_false_iff_ne.mpr c2
        have c2b1 : (x3_1.toList != ([] : List UInt8)) = true := bne_iff_ne.mpr c2
        by_cases c7 : x0_1 > 0
        · rw [if_pos c7] at H
          have c7b0 : decide (0 < x0_1) = true := decide_eq_true c7
          clear c7
          obtain ⟨y327, hy327⟩ : ∃ y_ : List Int, y_ = (([(48 + ((Int.tmod x0_1 10) % 256)) % 256] : List Int)) := ⟨_, rfl⟩
          replace H : (if (strOfNums y327).size + x3_1.size ≤ 9223372036854775807 then (archivistlaw03_long.l0 k1 ((Int.tdiv x0_1 10) % 4294967296) ((strOfNums y327) ++ x3_1)) else (none)) = some r := by first | (rw [hy327]; with_reducible exact H) | (have H2_ := (Option.bind_some _ _).symm.trans H; rw [hy327]; with_reducible exact H2_) | (have H2_ := (Option.bind_some _ _).symm.trans H; with_reducible exact H2_) | with_reducible exact H | (rw [hy327]; exact H) | exact H
          have Ny327 := Aside0.mk hy327
          clear hy327
          by_cases c8 : (strOfNums y327).size + x3_1.size ≤ 9223372036854775807
          · rw [if_pos c8] at H
            have c8b0 := eq_true c8
            have c8b1 : decide ((strOfNums y327).size + x3_1.size ≤ 9223372036854775807) = true := decide_eq_true c8
            try have c8b2 : (9223372036854775807 < (strOfNums y327).size + x3_1.size) = False := eq_false (Nat.not_lt.2 c8)
            have H' := Aside0.mk H
            clear H
            go_wp2_with (first | ((with_reducible refine gate_dst (N := 14) rfl ?_); refine Kd.R_lit (Kd.int .u8) _ 5 ?hg (N := 14) ?hd (xs := ([(48 + ((Int.tmod x0_1 10) % 256)) % 256] : List Int)) (inner := [.int .u8 ((48 + ((Int.tmod x0_1 10) % 256)) % 256)]) (ok := fun _ => True) (okp := fun _ => True) ?hr ?hp (fun _ hk => hk) trivial (Below.refl _ _) (Nat.le_refl _) (by simp) ?_; (case hd => rfl); (case hg => rfl); (case hr => first | (go_simp; done) | (go_simp; rfl)); (case hp => exact (Reps.one (show Kd.M (Kd.int .u8) _ _ _ ((48 + ((Int.tmod x0_1 10) % 256)) % 256) [.int .u8 ((48 + ((Int.tmod x0_1 10) % 256)) % 256)] from rfl) (Reps.none _ _))); intro v328 w9 ho10 hb hg_ hnew_; clear hg_ hnew_; (first | rw [← Ny327.out] at ho10 | (simp only [Int.reduceToNat] at ho10; rw [← Ny327.out] at ho10)); have n0_ := Aside0.mk (Kd.R_lower ho10 (below_size (by repeat (first | (with_reducible first | exact HB.out | apply below_alloc | apply pw_below_drewN | apply below_drew1) | exact HB.out)))); have n1_ := Aside0.mk (below_step (by repeat (first | (with_reducible first | exact HB.out | apply below_alloc | apply pw_below_drewN | apply below_drew1) | exact HB.out)) hb); clear HB; have HO329 := n0_; have HB := n1_; clear n0_ n1_; clear hb ho10; have hcv11 := own_string (P := Tryd.prog) Tryd.underlying22 Tryd.underlying5 Tryd.underlying9 (Kd.own_of_R HO329.out)))
            go_roundg k1
            case measure => have := HK1.out; omega
            case rel => exact ⟨((Int.tdiv x0_1 10) % 4294967296), ((strOfNums y327) ++ x3_1), (by first | rfl | (simp; done) | (simp [*]; done)), (by first | rfl | (simp; done) | (simp [*]; done)), H', ⟨by have := HK1.out; omega⟩, ⟨by repeat (first | (with_reducible first | exact HB.out | apply below_alloc | apply pw_below_drewN | apply below_drew1) | exact HB.out)⟩⟩
          · rw [if_neg c8] at H
            exact absurd H (by simp)
        · rw [if_neg c7] at H
          have c7b0 : decide (0 < x0_1) = false := decide_eq_false c7
          clear c7
          obtain rfl := Option.some.inj H
          go_wp2
          go_ret
          exact ⟨by first | rfl | (simp [errW_none, errW_some] <;> rfl) | (simp [*, errW_none, errW_some] <;> rfl), by repeat (first | (with_reducible first | exact HB.out | apply below_alloc | apply pw_below_drewN | apply below_drew1) | exact HB.out)⟩

end Go.Proofs.YtpijoadbaocnpaaDoor.X
