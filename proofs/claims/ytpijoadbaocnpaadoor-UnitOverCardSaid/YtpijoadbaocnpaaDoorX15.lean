-- Laid by xprint.py, a program of this session's, out of the translation.
import Derived.Test.YtpijoadbaocnpaaDoorX0
import Derived.Test.YtpijoadbaocnpaaDoorX1
import Derived.Test.YtpijoadbaocnpaaDoorX3
import Derived.Test.YtpijoadbaocnpaaDoorX5
namespace Go.Proofs.YtpijoadbaocnpaaDoor.X
open Go.RowKit Go.Proofs.YtpijoadbaocnpaaDoorW.PrintWords Go.Proofs.YtpijoadbaocnpaaDoorW.PrintLast Go.Proofs.YtpijoadbaocnpaaDoorW.PrintMore
attribute [local go_sem] max2_int min2_int max_two min_two max_three min_three max_four min_four x_isSome x_str_gtr x_str_leq x_str_geq   -- for this text's walks alone
set_option linter.unusedVariables false
set_option linter.unusedSimpArgs false

/-! ### archivistlaw03_UnitOver: function 7 -/
def archivistlaw03_UnitOver.l0 : Nat → Int → Bool → ByteArray → Int → Option (Bool)
  | 0, _, _, _, _ => none
  | k + 1, x0, x3, x4, x5 => if x4.toList = ([] : List UInt8) then ((some (([(48 + ((Int.tmod x5 10) % 256)) % 256] : List Int) : List Int)).bind fun y348 => (if (strOfNums y348).size + x4.size ≤ 9223372036854775807 then (archivistlaw03_UnitOver.l0 k x0 x3 ((strOfNums y348) ++ x4) ((Int.tdiv x5 10) % 4294967296)) else (none))) else (if x5 > 0 then ((some (([(48 + ((Int.tmod x5 10) % 256)) % 256] : List Int) : List Int)).bind fun y351 => (if (strOfNums y351).size + x4.size ≤ 9223372036854775807 then (archivistlaw03_UnitOver.l0 k x0 x3 ((strOfNums y351) ++ x4) ((Int.tdiv x5 10) % 4294967296)) else (none))) else (if x4.size + 5 ≤ 9223372036854775807 then ((unit_Bytes.f (x4 ++ (⟨#[48, 48, 48, 71, 66]⟩ : ByteArray))).bind fun bt354 => (if x4.size + 1 ≤ 9223372036854775807 then ((unit_Duration.f k (x4 ++ (⟨#[104]⟩ : ByteArray))).bind fun bt356 => (if x0 = 0 then (if x3 = true then (if bt354.2 = true then (none) else (if bt356.2 = true then (some (bt356.1 == 0)) else (none))) else (none)) else (if x3 = true then (if (bt354.2 == (decide ((wrap64 ((wrap64 (x0)) * 1000)) ≤ 8589934591))) = true then (if ((wrap64 ((wrap64 (x0)) * 1000)) ≤ 8589934591) then (if bt354.1 = (wrap64 ((wrap64 ((wrap64 (x0)) * 1000)) * 1073741824)) then (if (bt356.2 == (decide (x0 ≤ 2562047))) = true then (if x0 ≤ 2562047 then (some (bt356.1 == (wrap64 ((wrap64 (x0)) * 3600000000000)))) else (some true)) else (none)) else (none)) else (if (bt356.2 == (decide (x0 ≤ 2562047))) = true then (if x0 ≤ 2562047 then (some (bt356.1 == (wrap64 ((wrap64 (x0)) * 3600000000000)))) else (some true)) else (none))) else (none)) else (none)))) else (none))) else (none)))
def archivistlaw03_UnitOver.f (k : Nat) (a0 : Int) : Option (Bool) := (archivistlaw03_examples.f k).bind fun t347 => (if t347 = true then (archivistlaw03_UnitOver.l0 k a0 t347 (⟨#[]⟩ : ByteArray) a0) else (none))
theorem archivistlaw03_UnitOver.mono_l : ∀ k, (∀ y0 y1 y2 y3, LeO (archivistlaw03_UnitOver.l0 k y0 y1 y2 y3) (archivistlaw03_UnitOver.l0 (k + 1) y0 y1 y2 y3))
  | 0 => fun _ _ _ _ r h => by simp [archivistlaw03_UnitOver.l0] at h
  | k + 1 => by
    have ih0 := archivistlaw03_UnitOver.mono_l k
    · intro y0 y1 y2 y3
      unfold archivistlaw03_UnitOver.l0
      repeat' first
      | (with_reducible exact ih0 _ _ _ _)
      | (with_reducible exact archivistlaw03_examples.mono _)
      | (with_reducible exact unit_Duration.mono _ _)
      | (with_reducible exact LeO.refl _)
      | (with_reducible exact LeO.none _)
      | (with_reducible refine LeO.ite ?_ ?_)
      | (with_reducible refine LeO.bind ?_ (fun _ => ?_))
      | exact ih0 _ _ _ _
      | exact archivistlaw03_examples.mono _
      | exact unit_Duration.mono _ _
      | exact LeO.none _
      | refine LeO.ite ?_ ?_
      | refine LeO.bind ?_ (fun _ => ?_)
theorem archivistlaw03_UnitOver.mono : ∀ a0 k, LeO (archivistlaw03_UnitOver.f k a0) (archivistlaw03_UnitOver.f (k + 1) a0) := by
  intro a0 k
  have ih0 := archivistlaw03_UnitOver.mono_l k
  unfold archivistlaw03_UnitOver.f
  repeat' first
      | (with_reducible exact ih0 _ _ _ _)
      | (with_reducible exact archivistlaw03_examples.mono _)
      | (with_reducible exact unit_Duration.mono _ _)
      | (with_reducible exact LeO.refl _)
      | (with_reducible exact LeO.none _)
      | (with_reducible refine LeO.ite ?_ ?_)
      | (with_reducible refine LeO.bind ?_ (fun _ => ?_))
      | exact ih0 _ _ _ _
      | exact archivistlaw03_examples.mono _
      | exact unit_Duration.mono _ _
      | exact LeO.none _
      | refine LeO.ite ?_ ?_
      | refine LeO.bind ?_ (fun _ => ?_)
set_option maxHeartbeats 8000000 in
set_option maxRecDepth 100000 in
theorem archivistlaw03_UnitOver.calls (k : Nat) (a0 : Int) (r : Bool) (w : World) (h : archivistlaw03_UnitOver.f k a0 = some r) (hLd : Laid w) :
    Calls Tryd.prog 7 #[.int .u32 a0] w fun e w' => e = .returned (.bool r) ∧ Below w.heap.size w w' := by
  have HLd := Aside0.mk hLd
  clear hLd
  have HB := Aside0.mk (Below.refl w.heap.size w)
  have H : ((archivistlaw03_examples.f k).bind fun t347 => (if t347 = true then (archivistlaw03_UnitOver.l0 k a0 t347 (⟨#[]⟩ : ByteArray) a0) else (none))) = some r := h
  clear h
  replace H := Option.bind_eq_some_iff.mp H
  obtain ⟨t347, A20, H⟩ := H
  replace H : (if t347 = true then (archivistlaw03_UnitOver.l0 k a0 t347 (⟨#[]⟩ : ByteArray) a0) else (none)) = some r := H
  have A2 := Aside0.mk A20
  clear A20
  by_cases c3 : t347 = true
  · subst c3
    have H1 : (archivistlaw03_UnitOver.l0 k a0 true (⟨#[]⟩ : ByteArray) a0) = some r := by rw [if_pos rfl] at H; exact H
    clear H
    have H := H1
    clear H1
    have H' := Aside0.mk H
    clear H
    go_enter Tryd.func7, Tryd.ntmps7
    go_wp2_with (first | ((with_reducible refine gate_callee (f := 10) rfl ?_); refine goesL_ (some 12) rfl rfl Tryd.func10 (by kernel_rfl) rfl #[] rfl (by (try simp only [List.map_toArray, List.map_cons, List.map_nil]); first | done | rfl | (simp only [List.length_drop, List.length_take]; rfl)) ?_; (with_reducible refine (archivistlaw03_examples.calls k  true _ A2.out ?sideLd).mono ?_); (case sideLd => exact laid_below HLd.out (by repeat (first | (with_reducible first | exact HB.out | apply below_alloc | apply pw_below_drewN | apply below_drew1) | exact HB.out))); rintro e w4 ⟨rfl, hb⟩; refine ⟨_, rfl, ?_⟩; have n0_ := Aside0.mk (below_step (by repeat (first | (with_reducible first | exact HB.out | apply below_alloc | apply pw_below_drewN | apply below_drew1) | exact HB.out)) hb); clear HB; have HB := n0_; clear n0_; (try clear hb); (try clear hb2); (try clear hk); (try clear hi)))
    go_loopg [4, 5] k (fun kq v4 v5 w' => ∃ (x4_1 : ByteArray) (x5_1 : Int), v4 = .string x4_1 ∧ v5 = .int .u32 x5_1 ∧ Aside0 (archivistlaw03_UnitOver.l0 kq a0 true x4_1 x5_1 = some r) ∧ Aside0 (kq ≤ k) ∧ Aside0 (Below w.heap.size w w'))
    case atStart => exact ⟨((⟨#[]⟩ : ByteArray)), (a0), (by first | rfl | (simp; done) | (simp [*]; done)), (by first | rfl | (simp; done) | (simp [*]; done)), H', ⟨Nat.le_refl _⟩, ⟨by repeat (first | (with_reducible first | exact HB.out | apply below_alloc | apply pw_below_drewN | apply below_drew1) | exact HB.out)⟩⟩
    case round =>
      clear H'
      try clear c1
      try clear p2
      try clear c3
      obtain ⟨x4_1, x5_1, rfl, rfl, HA, HK1, HB⟩ := hrel
      cases gk with
      | zero => exact absurd HA.out (by simp [archivistlaw03_UnitOver.l0])
      | succ k1 =>
        have H := HA.out
        clear HA
        simp only [archivistlaw03_UnitOver.l0] at H
        by_cases c5 : x4_1.toList = ([] : List UInt8)
        · rw [if_pos c5] at H
          have c5b0 : (x4_1.toList == ([] : List UInt8)) = true := beq_iff_eq.mpr c5
          have c5b1 : (x4_1.toList != ([] : List UInt8)) = false := bne_eq_false_iff_eq.mpr c5
          clear c5
          obtain ⟨y348, hy348⟩ : ∃ y_ : List Int, y_ = (([(48 + ((Int.tmod x5_1 10) % 256)) % 256] : List Int)) := ⟨_, rfl⟩
          replace H : (if (strOfNums y348).size + x4_1.size ≤ 9223372036854775807 then (archivistlaw03_UnitOver.l0 k1 a0 true ((strOfNums y348) ++ x4_1) ((Int.tdiv x5_1 10) % 4294967296)) else (none)) = some r := by first | (rw [hy348]; with_reducible exact H) | (have H2_ := (Option.bind_some _ _).symm.trans H; rw [hy348]; with_reducible exact H2_) | (have H2_ := (Option.bind_some _ _).symm.trans H; with_reducible exact H2_) | with_reducible exact H | (rw [hy348]; exact H) | exact H
          have Ny348 := Aside0.mk hy348
          clear hy348
          by_cases c6 : (strOfNums y348).size + x4_1.size ≤ 9223372036854775807
          · rw [if_pos c6] at H
            have c6b0 := eq_true c6
            have c6b1 : decide ((strOfNums y348).size + x4_1.size ≤ 9223372036854775807) = true := decide_eq_true c6
            try have c6b2 : (9223372036854775807 < (strOfNums y348).size + x4_1.size) = False := eq_false (Nat.not_lt.2 c6)
            have H' := Aside0.mk H
            clear H
            go_wp2_with (first | ((with_reducible refine gate_dst (N := 28) rfl ?_); refine Kd.R_lit (Kd.int .u8) _ 5 ?hg (N := 28) ?hd (xs := ([(48 + ((Int.tmod x5_1 10) % 256)) % 256] : List Int)) (inner := [.int .u8 ((48 + ((Int.tmod x5_1 10) % 256)) % 256)]) (ok := fun _ => True) (okp := fun _ => True) ?hr ?hp (fun _ hk => hk) trivial (Below.refl _ _) (Nat.le_refl _) (by simp) ?_; (case hd => rfl); (case hg => rfl); (case hr => first | (go_simp; done) | (go_simp; rfl)); (case hp => exact (Reps.one (show Kd.M (Kd.int .u8) _ _ _ ((48 + ((Int.tmod x5_1 10) % 256)) % 256) [.int .u8 ((48 + ((Int.tmod x5_1 10) % 256)) % 256)] from rfl) (Reps.none _ _))); intro v349 w7 ho8 hb hg_ hnew_; clear hg_ hnew_; (first | rw [← Ny348.out] at ho8 | (simp only [Int.reduceToNat] at ho8; rw [← Ny348.out] at ho8)); have n0_ := Aside0.mk (Kd.R_lower ho8 (below_size (by repeat (first | (with_reducible first | exact HB.out | apply below_alloc | apply pw_below_drewN | apply below_drew1) | exact HB.out)))); have n1_ := Aside0.mk (below_step (by repeat (first | (with_reducible first | exact HB.out | apply below_alloc | apply pw_below_drewN | apply below_drew1) | exact HB.out)) hb); clear HB; have HO350 := n0_; have HB := n1_; clear n0_ n1_; clear hb ho8; have hcv9 := own_string (P := Tryd.prog) Tryd.underlying22 Tryd.underlying5 Tryd.underlying9 (Kd.own_of_R HO350.out)))
            go_roundg k1
            case measure => have := HK1.out; omega
            case rel => exact ⟨((strOfNums y348) ++ x4_1), ((Int.tdiv x5_1 10) % 4294967296), (by first | rfl | (simp; done) | (simp [*]; done)), (by first | rfl | (simp; done) | (simp [*]; done)), H', ⟨by have := HK1.out; omega⟩, ⟨by repeat (first | (with_reducible first | exact HB.out | apply below_alloc | apply pw_below_drewN | apply below_drew1) | exact HB.out)⟩⟩
          · rw [if_neg c6] at H
            exact absurd H (by simp)
        · rw [if_neg c5] at H
          have c5b0 : (x4_1.toList == ([] : List UInt8)) = false := beq_eq_false_iff_ne.mpr c5
          have c5b1 : (x4_1.toList != ([] : List UInt8)) = true := bne_iff_ne.mpr c5
          by_cases c10 : x5_1 > 0
          · rw [if_pos c10] at H
            have c10b0 : decide (0 < x5_1) = true := decide_eq_true c10
            clear c10
            obtain ⟨y351, hy351⟩ : ∃ y_ : List Int, y_ = (([(48 + ((Int.tmod x5_1 10) % 256)) % 256] : List Int)) := ⟨_, rfl⟩
            replace H : (if (strOfNums y351).size + x4_1.size ≤ 9223372036854775807 then (archivistlaw03_UnitOver.l0 k1 a0 true ((strOfNums y351) ++ x4_1) ((Int.tdiv x5_1 10) % 4294967296)) else (none)) = some r := by first | (rw [hy351]; with_reducible exact H) | (have H2_ := (Option.bind_some _ _).symm.trans H; rw [hy351]; with_reducible exact H2_) | (have H2_ := (Option.bind_some _ _).symm.trans H; with_reducible exact H2_) | with_reducible exact H | (rw [hy351]; exact H) | exact H
            have Ny351 := Aside0.mk hy351
            clear hy351
            by_cases c11 : (strOfNums y351).size + x4_1.size ≤ 9223372036854775807
            · rw [if_pos c11] at H
              have c11b0 := eq_true c11
              have c11b1 : decide ((strOfNums y351).size + x4_1.size ≤ 9223372036854775807) = true := decide_eq_true c11
              try have c11b2 : (9223372036854775807 < (strOfNums y351).size + x4_1.size) = False := eq_false (Nat.not_lt.2 c11)
              have H' := Aside0.mk H
              clear H
              go_wp2_with (first | ((with_reducible refine gate_dst (N := 28) rfl ?_); refine Kd.R_lit (Kd.int .u8) _ 5 ?hg (N := 28) ?hd (xs := ([(48 + ((Int.tmod x5_1 10) % 256)) % 256] : List Int)) (inner := [.int .u8 ((48 + ((Int.tmod x5_1 10) % 256)) % 256)]) (ok := fun _ => True) (okp := fun _ => True) ?hr ?hp (fun _ hk => hk) trivial (Below.refl _ _) (Nat.le_refl _) (by simp) ?_; (case hd => rfl); (case hg => rfl); (case hr => first | (go_simp; done) | (go_simp; rfl)); (case hp => exact (Reps.one (show Kd.M (Kd.int .u8) _ _ _ ((48 + ((Int.tmod x5_1 10) % 256)) % 256) [.int .u8 ((48 + ((Int.tmod x5_1 10) % 256)) % 256)] from rfl) (Reps.none _ _))); intro v352 w12 ho13 hb hg_ hnew_; clear hg_ hnew_; (first | rw [← Ny351.out] at ho13 | (simp only [Int.reduceToNat] at ho13; rw [← Ny351.out] at ho13)); have n0_ := Aside0.mk (Kd.R_lower ho13 (below_size (by repeat (first | (with_reducible first | exact HB.out | apply below_alloc | apply pw_below_drewN | apply below_drew1) | exact HB.out)))); have n1_ := Aside0.mk (below_step (by repeat (first | (with_reducible first | exact HB.out | apply below_alloc | apply pw_below_drewN | apply below_drew1) | exact HB.out)) hb); clear HB; have HO353 := n0_; have HB := n1_; clear n0_ n1_; clear hb ho13; have hcv14 := own_string (P := Tryd.prog) Tryd.underlying22 Tryd.underlying5 Tryd.underlying9 (Kd.own_of_R HO353.out)))
              go_roundg k1
              case measure => have := HK1.out; omega
              case rel => exact ⟨((strOfNums y351) ++ x4_1), ((Int.tdiv x5_1 10) % 4294967296), (by first | rfl | (simp; done) | (simp [*]; done)), (by first | rfl | (simp; done) | (simp [*]; done)), H', ⟨by have := HK1.out; omega⟩, ⟨by repeat (first | (with_reducible first | exact HB.out | apply below_alloc | apply pw_below_drewN | apply below_drew1) | exact HB.out)⟩⟩
            · rw [if_neg c11] at H
              exact absurd H (by simp)
          · rw [if_neg c10] at H
            have c10b0 : decide (0 < x5_1) = false := decide_eq_false c10
            clear c10
            by_cases c15 : x4_1.size + 5 ≤ 9223372036854775807
            · rw [if_pos c15] at H
              have c15b0 := eq_true c15
              have c15b1 : decide (x4_1.size + 5 ≤ 9223372036854775807) = true := decide_eq_true c15
              try have c15b2 : (9223372036854775807 < x4_1.size + 5) = False := eq_false (Nat.not_lt.2 c15)
              replace H := Option.bind_eq_some_iff.mp H
              obtain ⟨⟨t354, t355⟩, A160, H⟩ := H
              replace H : (if x4_1.size + 1 ≤ 9223372036854775807 then ((unit_Duration.f k1 (x4_1 ++ (⟨#[104]⟩ : ByteArray))).bind fun bt356 => (if a0 = 0 then (if true = true then (if t355 = true then (none) else (if bt356.2 = true then (some (bt356.1 == 0)) else (none))) else (none)) else (if true = true then (if (t355 == (decide ((wrap64 ((wrap64 (a0)) * 1000)) ≤ 8589934591))) = true then (if ((wrap64 ((wrap64 (a0)) * 1000)) ≤ 8589934591) then (if t354 = (wrap64 ((wrap64 ((wrap64 (a0)) * 1000)) * 1073741824)) then (if (bt356.2 == (decide (a0 ≤ 2562047))) = true then (if a0 ≤ 2562047 then (some (bt356.1 == (wrap64 ((wrap64 (a0)) * 3600000000000)))) else (some true)) else (none)) else (none)) else (if (bt356.2 == (decide (a0 ≤ 2562047))) = true then (if a0 ≤ 2562047 then (some (bt356.1 == (wrap64 ((wrap64 (a0)) * 3600000000000)))) else (some true)) else (none))) else (none)) else (none)))) else (none)) = some r := H
              have A16 := Aside0.mk A160
              clear A160
              by_cases c17 : x4_1.size + 1 ≤ 9223372036854775807
              · rw [if_pos c17] at H
                have c17b0 := eq_true c17
                have c17b1 : decide (x4_1.size + 1 ≤ 9223372036854775807) = true := decide_eq_true c17
                try have c17b2 : (9223372036854775807 < x4_1.size + 1) = False := eq_false (Nat.not_lt.2 c17)
                replace H := Option.bind_eq_some_iff.mp H
                obtain ⟨⟨t356, t357⟩, A180, H⟩ := H
                replace H : (if a0 = 0 then (if true = true then (if t355 = true then (none) else (if t357 = true then (some (t356 == 0)) else (none))) else (none)) else (if true = true then (if (t355 == (decide ((wrap64 ((wrap64 (a0)) * 1000)) ≤ 8589934591))) = true then (if ((wrap64 ((wrap64 (a0)) * 1000)) ≤ 8589934591) then (if t354 = (wrap64 ((wrap64 ((wrap64 (a0)) * 1000)) * 1073741824)) then (if (t357 == (decide (a0 ≤ 2562047))) = true then (if a0 ≤ 2562047 then (some (t356 == (wrap64 ((wrap64 (a0)) * 3600000000000)))) else (some true)) else (none)) else (none)) else (if (t357 == (decide (a0 ≤ 2562047))) = true then (if a0 ≤ 2562047 then (some (t356 == (wrap64 ((wrap64 (a0)) * 3600000000000)))) else (some true)) else (none))) else (none)) else (none))) = some r := H
                have A18 := Aside0.mk A180
                clear A180
                by_cases c19 : a0 = 0
                · rw [if_pos c19] at H
                  have c19b0 : (a0 == 0) = true := beq_iff_eq.mpr c19
                  have c19b1 : (a0 != 0) = false := bne_eq_false_iff_eq.mpr c19
                  clear c19
                  by_cases c20 : true = true
                  · clear c20
                    have H1 : (if t355 = true then (none) else (if t357 = true then (some (t356 == 0)) else (none))) = some r := by first | (rw [if_pos rfl] at H; exact H) | (rw [if_pos trivial] at H; exact H)
                    clear H
                    have H := H1
                    clear H1
                    by_cases c21 : t355 = true
                    · subst c21
                      have H1 : (none) = some r := by first | (rw [if_pos rfl] at H; exact H) | (rw [if_pos trivial] at H; exact H)
                      clear H
                      have H := H1
                      clear H1
                      exact absurd H (by simp)
                    · replace c21 := Bool.eq_false_iff.mpr c21
                      subst c21
                      have H1 : (if t357 = true then (some (t356 == 0)) else (none)) = some r := by rw [if_neg (show ¬ (false = true) by decide)] at H; exact H
                      clear H
                      have H := H1
                      clear H1
                      by_cases c22 : t357 = true
                      · subst c22
                        have H1 : (some (t356 == 0)) = some r := by first | (rw [if_pos rfl] at H; exact H) | (rw [if_pos trivial] at H; exact H)
                        clear H
                        have H := H1
                        clear H1
                        obtain rfl := Option.some.inj H
                        go_wp2_with (first | ((with_reducible refine gate_callee (f := 14) rfl ?_); refine goesL_ (some 35) rfl rfl Tryd.func14 (by kernel_rfl) rfl #[.string (x4_1 ++ (⟨#[48, 48, 48, 71, 66]⟩ : ByteArray))] rfl (by (try simp only [List.map_toArray, List.map_cons, List.map_nil]); first | done | rfl | (simp only [List.length_drop, List.length_take]; rfl)) ?_; (with_reducible refine (unit_Bytes.calls (x4_1 ++ (⟨#[48, 48, 48, 71, 66]⟩ : ByteArray)) t354 false _ A16.out ?sideLd).mono ?_); (case sideLd => exact laid_below HLd.out (by repeat (first | (with_reducible first | exact HB.out | apply below_alloc | apply pw_below_drewN | apply below_drew1) | exact HB.out))); rintro e w23 ⟨rfl, hb⟩; refine ⟨_, rfl, ?_⟩; have n0_ := Aside0.mk (below_step (by repeat (first | (with_reducible first | exact HB.out | apply below_alloc | apply pw_below_drewN | apply below_drew1) | exact HB.out)) hb); clear HB; have HB := n0_; clear n0_; (try clear hb); (try clear hb2); (try clear hk); (try clear hi)) | ((with_reducible refine gate_callee (f := 12) rfl ?_); refine goesL_ (some 41) rfl rfl Tryd.func12 (by kernel_rfl) rfl #[.string (x4_1 ++ (⟨#[104]⟩ : ByteArray))] rfl (by (try simp only [List.map_toArray, List.map_cons, List.map_nil]); first | done | rfl | (simp only [List.length_drop, List.length_take]; rfl)) ?_; (with_reducible refine (unit_Duration.calls k1 (x4_1 ++ (⟨#[104]⟩ : ByteArray)) t356 true _ A18.out ?sideLd).mono ?_); (case sideLd => exact laid_below HLd.out (by repeat (first | (with_reducible first | exact HB.out | apply below_alloc | apply pw_below_drewN | apply below_drew1) | exact HB.out))); rintro e w24 ⟨rfl, hb⟩; refine ⟨_, rfl, ?_⟩; have n0_ := Aside0.mk (below_step (by repeat (first | (with_reducible first | exact HB.out | apply below_alloc | apply pw_below_drewN | apply below_drew1) | exact HB.out)) hb); clear HB; have HB := n0_; clear n0_; (try clear hb); (try clear hb2); (try clear hk); (try clear hi)))
                        go_ret
                        exact ⟨by first | rfl | (simp [errW_none, errW_some] <;> rfl) | (simp [*, errW_none, errW_some] <;> rfl), by repeat (first | (with_reducible first | exact HB.out | apply below_alloc | apply pw_below_drewN | apply below_drew1) | exact HB.out)⟩
                      · replace c22 := Bool.eq_false_iff.mpr c22
                        subst c22
                        have H1 : (none) = some r := by rw [if_neg (show ¬ (false = true) by decide)] at H; exact H
                        clear H
                        have H := H1
                        clear H1
                        exact absurd H (by simp)
                  · exact absurd rfl c20
                · rw [if_neg c19] at H
                  have c19b0 : (a0 == 0) = false := beq_eq_false_iff_ne.mpr c19
                  have c19b1 : (a0 != 0) = true := bne_iff_ne.mpr c19
                  by_cases c25 : true = true
                  · clear c25
                    have H1 : (if (t355 == (decide ((wrap64 ((wrap64 (a0)) * 1000)) ≤ 8589934591))) = true then (if ((wrap64 ((wrap64 (a0)) * 1000)) ≤ 8589934591) then (if t354 = (wrap64 ((wrap64 ((wrap64 (a0)) * 1000)) * 1073741824)) then (if (t357 == (decide (a0 ≤ 2562047))) = true then (if a0 ≤ 2562047 then (some (t356 == (wrap64 ((wrap64 (a0)) * 3600000000000)))) else (some true)) else (none)) else (none)) else (if (t357 == (decide (a0 ≤ 2562047))) = true then (if a0 ≤ 2562047 then (some (t356 == (wrap64 ((wrap64 (a0)) * 3600000000000)))) else (some true)) else (none))) else (none)) = some r := by first | (rw [if_pos rfl] at H; exact H) | (rw [if_pos trivial] at H; exact H)
                    clear H
                    have H := H1
                    clear H1
                    by_cases c26 : (t355 == (decide ((wrap64 ((wrap64 (a0)) * 1000)) ≤ 8589934591))) = true
                    · rw [if_pos c26] at H
                      have c26b0 : (t355 == (decide ((wrap64 ((wrap64 (a0)) * 1000)) ≤ 8589934591))) = true := c26
                      (try (have c26b1 : decide (t355 = (decide ((wrap64 ((wrap64 (a0)) * 1000)) ≤ 8589934591))) = true := by simpa using c26))
                      (try (have c26b2 : (t355 == (decide ((wrap64 ((wrap64 (a0)) * 1000)) ≤ 8589934591))) = true := by simpa using c26))
                      clear c26
                      by_cases c27 : ((wrap64 ((wrap64 (a0)) * 1000)) ≤ 8589934591)
                      · rw [if_pos c27] at H
                        have c27b0 : decide ((wrap64 ((wrap64 (a0)) * 1000)) ≤ 8589934591) = true := decide_eq_true c27
                        have ec26 : t355 = true := (beq_iff_eq.mp c26b0).trans c27b0
                        clear c27
                        by_cases c28 : t354 = (wrap64 ((wrap64 ((wrap64 (a0)) * 1000)) * 1073741824))
                        · rw [if_pos c28] at H
                          have c28b0 : (t354 == (wrap64 ((wrap64 ((wrap64 (a0)) * 1000)) * 1073741824))) = true := beq_iff_eq.mpr c28
                          have c28b1 : (t354 != (wrap64 ((wrap64 ((wrap64 (a0)) * 1000)) * 1073741824))) = false := bne_eq_false_iff_eq.mpr c28
                          clear c28
                          by_cases c29 : (t357 == (decide (a0 ≤ 2562047))) = true
                          · rw [if_pos c29] at H
                            have c29b0 : (t357 == (decide (a0 ≤ 2562047))) = true := c29
                            (try (have c29b1 : decide (t357 = (decide (a0 ≤ 2562047))) = true := by simpa using c29))
                            (try (have c29b2 : (t357 == (decide (a0 ≤ 2562047))) = true := by simpa using c29))
                            clear c29
                            by_cases c30 : a0 ≤ 2562047
                            · rw [if_pos c30] at H
                              have c30b0 : decide (a0 ≤ 2562047) = true := decide_eq_true c30
                              have ec29 : t357 = true := (beq_iff_eq.mp c29b0).trans c30b0
                              clear c30
                              obtain rfl := Option.some.inj H
                              go_wp2_with (first | ((with_reducible refine gate_callee (f := 14) rfl ?_); refine goesL_ (some 35) rfl rfl Tryd.func14 (by kernel_rfl) rfl #[.string (x4_1 ++ (⟨#[48, 48, 48, 71, 66]⟩ : ByteArray))] rfl (by (try simp only [List.map_toArray, List.map_cons, List.map_nil]); first | done | rfl | (simp only [List.length_drop, List.length_take]; rfl)) ?_; (with_reducible refine (unit_Bytes.calls (x4_1 ++ (⟨#[48, 48, 48, 71, 66]⟩ : ByteArray)) t354 t355 _ A16.out ?sideLd).mono ?_); (case sideLd => exact laid_below HLd.out (by repeat (first | (with_reducible first | exact HB.out | apply below_alloc | apply pw_below_drewN | apply below_drew1) | exact HB.out))); rintro e w31 ⟨rfl, hb⟩; refine ⟨_, rfl, ?_⟩; have n0_ := Aside0.mk (below_step (by repeat (first | (with_reducible first | exact HB.out | apply below_alloc | apply pw_below_drewN | apply below_drew1) | exact HB.out)) hb); clear HB; have HB := n0_; clear n0_; (try clear hb); (try clear hb2); (try clear hk); (try clear hi)) | ((with_reducible refine gate_callee (f := 12) rfl ?_); refine goesL_ (some 41) rfl rfl Tryd.func12 (by kernel_rfl) rfl #[.string (x4_1 ++ (⟨#[104]⟩ : ByteArray))] rfl (by (try simp only [List.map_toArray, List.map_cons, List.map_nil]); first | done | rfl | (simp only [List.length_drop, List.length_take]; rfl)) ?_; (with_reducible refine (unit_Duration.calls k1 (x4_1 ++ (⟨#[104]⟩ : ByteArray)) t356 t357 _ A18.out ?sideLd).mono ?_); (case sideLd => exact laid_below HLd.out (by repeat (first | (with_reducible first | exact HB.out | apply below_alloc | apply pw_below_drewN | apply below_drew1) | exact HB.out))); rintro e w32 ⟨rfl, hb⟩; refine ⟨_, rfl, ?_⟩; have n0_ := Aside0.mk (below_step (by repeat (first | (with_reducible first | exact HB.out | apply below_alloc | apply pw_below_drewN | apply below_drew1) | exact HB.out)) hb); clear HB; have HB := n0_; clear n0_; (try clear hb); (try clear hb2); (try clear hk); (try clear hi)))
                              go_ret
                              exact ⟨by first | rfl | (simp [errW_none, errW_some] <;> rfl) | (simp [*, errW_none, errW_some] <;> rfl), by repeat (first | (with_reducible first | exact HB.out | apply below_alloc | apply pw_below_drewN | apply below_drew1) | exact HB.out)⟩
                            · rw [if_neg c30] at H
                              have c30b0 : decide (a0 ≤ 2562047) = false := decide_eq_false c30
                              have ec29 : t357 = false := (beq_iff_eq.mp c29b0).trans c30b0
                              clear c30
                              obtain rfl := Option.some.inj H
                              go_wp2_with (first | ((with_reducible refine gate_callee (f := 14) rfl ?_); refine goesL_ (some 35) rfl rfl Tryd.func14 (by kernel_rfl) rfl #[.string (x4_1 ++ (⟨#[48, 48, 48, 71, 66]⟩ : ByteArray))] rfl (by (try simp only [List.map_toArray, List.map_cons, List.map_nil]); first | done | rfl | (simp only [List.length_drop, List.length_take]; rfl)) ?_; (with_reducible refine (unit_Bytes.calls (x4_1 ++ (⟨#[48, 48, 48, 71, 66]⟩ : ByteArray)) t354 t355 _ A16.out ?sideLd).mono ?_); (case sideLd => exact laid_below HLd.out (by repeat (first | (with_reducible first | exact HB.out | apply below_alloc | apply pw_below_drewN | apply below_drew1) | exact HB.out))); rintro e w33 ⟨rfl, hb⟩; refine ⟨_, rfl, ?_⟩; have n0_ := Aside0.mk (below_step (by repeat (first | (with_reducible first | exact HB.out | apply below_alloc | apply pw_below_drewN | apply below_drew1) | exact HB.out)) hb); clear HB; have HB := n0_; clear n0_; (try clear hb); (try clear hb2); (try clear hk); (try clear hi)) | ((with_reducible refine gate_callee (f := 12) rfl ?_); refine goesL_ (some 41) rfl rfl Tryd.func12 (by kernel_rfl) rfl #[.string (x4_1 ++ (⟨#[104]⟩ : ByteArray))] rfl (by (try simp only [List.map_toArray, List.map_cons, List.map_nil]); first | done | rfl | (simp only [List.length_drop, List.length_take]; rfl)) ?_; (with_reducible refine (unit_Duration.calls k1 (x4_1 ++ (⟨#[104]⟩ : ByteArray)) t356 t357 _ A18.out ?sideLd).mono ?_); (case sideLd => exact laid_below HLd.out (by repeat (first | (with_reducible first | exact HB.out | apply below_alloc | apply pw_below_drewN | apply below_drew1) | exact HB.out))); rintro e w34 ⟨rfl, hb⟩; refine ⟨_, rfl, ?_⟩; have n0_ := Aside0.mk (below_step (by repeat (first | (with_reducible first | exact HB.out | apply below_alloc | apply pw_below_drewN | apply below_drew1) | exact HB.out)) hb); clear HB; have HB := n0_; clear n0_; (try clear hb); (try clear hb2); (try clear hk); (try clear hi)))
                              go_ret
                              exact ⟨by first | rfl | (simp [errW_none, errW_some] <;> rfl) | (simp [*, errW_none, errW_some] <;> rfl), by repeat (first | (with_reducible first | exact HB.out | apply below_alloc | apply pw_below_drewN | apply below_drew1) | exact HB.out)⟩
                          · rw [if_neg c29] at H
                            exact absurd H (by simp)
                        · rw [if_neg c28] at H
                          exact absurd H (by simp)
                      · rw [if_neg c27] at H
                        have c27b0 : decide ((wrap64 ((wrap64 (a0)) * 1000)) ≤ 8589934591) = false := decide_eq_false c27
                        have ec26 : t355 = false := (beq_iff_eq.mp c26b0).trans c27b0
                        clear c27
                        by_cases c35 : (t357 == (decide (a0 ≤ 2562047))) = true
                        · rw [if_pos c35] at H
                          have c35b0 : (t357 == (decide (a0 ≤ 2562047))) = true := c35
                          (try (have c35b1 : decide (t357 = (decide (a0 ≤ 2562047))) = true := by simpa using c35))
                          (try (have c35b2 : (t357 == (decide (a0 ≤ 2562047))) = true := by simpa using c35))
                          clear c35
                          by_cases c36 : a0 ≤ 2562047
                          · rw [if_pos c36] at H
                            have c36b0 : decide (a0 ≤ 2562047) = true := decide_eq_true c36
                            have ec35 : t357 = true := (beq_iff_eq.mp c35b0).trans c36b0
                            clear c36
                            obtain rfl := Option.some.inj H
                            go_wp2_with (first | ((with_reducible refine gate_callee (f := 14) rfl ?_); refine goesL_ (some 35) rfl rfl Tryd.func14 (by kernel_rfl) rfl #[.string (x4_1 ++ (⟨#[48, 48, 48, 71, 66]⟩ : ByteArray))] rfl (by (try simp only [List.map_toArray, List.map_cons, List.map_nil]); first | done | rfl | (simp only [List.length_drop, List.length_take]; rfl)) ?_; (with_reducible refine (unit_Bytes.calls (x4_1 ++ (⟨#[48, 48, 48, 71, 66]⟩ : ByteArray)) t354 t355 _ A16.out ?sideLd).mono ?_); (case sideLd => exact laid_below HLd.out (by repeat (first | (with_reducible first | exact HB.out | apply below_alloc | apply pw_below_drewN | apply below_drew1) | exact HB.out))); rintro e w37 ⟨rfl, hb⟩; refine ⟨_, rfl, ?_⟩; have n0_ := Aside0.mk (below_step (by repeat (first | (with_reducible first | exact HB.out | apply below_alloc | apply pw_below_drewN | apply below_drew1) | exact HB.out)) hb); clear HB; have HB := n0_; clear n0_; (try clear hb); (try clear hb2); (try clear hk); (try clear hi)) | ((with_reducible refine gate_callee (f := 12) rfl ?_); refine goesL_ (some 41) rfl rfl Tryd.func12 (by kernel_rfl) rfl #[.string (x4_1 ++ (⟨#[104]⟩ : ByteArray))] rfl (by (try simp only [List.map_toArray, List.map_cons, List.map_nil]); first | done | rfl | (simp only [List.length_drop, List.length_take]; rfl)) ?_; (with_reducible refine (unit_Duration.calls k1 (x4_1 ++ (⟨#[104]⟩ : ByteArray)) t356 t357 _ A18.out ?sideLd).mono ?_); (case sideLd => exact laid_below HLd.out (by repeat (first | (with_reducible first | exact HB.out | apply below_alloc | apply pw_below_drewN | apply below_drew1) | exact HB.out))); rintro e w38 ⟨rfl, hb⟩; refine ⟨_, rfl, ?_⟩; have n0_ := Aside0.mk (below_step (by repeat (first | (with_reducible first | exact HB.out | apply below_alloc | apply pw_below_drewN | apply below_drew1) | exact HB.out)) hb); clear HB; have HB := n0_; clear n0_; (try clear hb); (try clear hb2); (try clear hk); (try clear hi)))
                            go_ret
                            exact ⟨by first | rfl | (simp [errW_none, errW_some] <;> rfl) | (simp [*, errW_none, errW_some] <;> rfl), by repeat (first | (with_reducible first | exact HB.out | apply below_alloc | apply pw_below_drewN | apply below_drew1) | exact HB.out)⟩
                          · rw [if_neg c36] at H
                            have c36b0 : decide (a0 ≤ 2562047) = false := decide_eq_false c36
                            have ec35 : t357 = false := (beq_iff_eq.mp c35b0).trans c36b0
                            clear c36
                            obtain rfl := Option.some.inj H
                            go_wp2_with (first | ((with_reducible refine gate_callee (f := 14) rfl ?_); refine goesL_ (some 35) rfl rfl Tryd.func14 (by kernel_rfl) rfl #[.string (x4_1 ++ (⟨#[48, 48, 48, 71, 66]⟩ : ByteArray))] rfl (by (try simp only [List.map_toArray, List.map_cons, List.map_nil]); first | done | rfl | (simp only [List.length_drop, List.length_take]; rfl)) ?_; (with_reducible refine (unit_Bytes.calls (x4_1 ++ (⟨#[48, 48, 48, 71, 66]⟩ : ByteArray)) t354 t355 _ A16.out ?sideLd).mono ?_); (case sideLd => exact laid_below HLd.out (by repeat (first | (with_reducible first | exact HB.out | apply below_alloc | apply pw_below_drewN | apply below_drew1) | exact HB.out))); rintro e w39 ⟨rfl, hb⟩; refine ⟨_, rfl, ?_⟩; have n0_ := Aside0.mk (below_step (by repeat (first | (with_reducible first | exact HB.out | apply below_alloc | apply pw_below_drewN | apply below_drew1) | exact HB.out)) hb); clear HB; have HB := n0_; clear n0_; (try clear hb); (try clear hb2); (try clear hk); (try clear hi)) | ((with_reducible refine gate_callee (f := 12) rfl ?_); refine goesL_ (some 41) rfl rfl Tryd.func12 (by kernel_rfl) rfl #[.string (x4_1 ++ (⟨#[104]⟩ : ByteArray))] rfl (by (try simp only [List.map_toArray, List.map_cons, List.map_nil]); first | done | rfl | (simp only [List.length_drop, List.length_take]; rfl)) ?_; (with_reducible refine (unit_Duration.calls k1 (x4_1 ++ (⟨#[104]⟩ : ByteArray)) t356 t357 _ A18.out ?sideLd).mono ?_); (case sideLd => exact laid_below HLd.out (by repeat (first | (with_reducible first | exact HB.out | apply below_alloc | apply pw_below_drewN | apply below_drew1) | exact HB.out))); rintro e w40 ⟨rfl, hb⟩; refine ⟨_, rfl, ?_⟩; have n0_ := Aside0.mk (below_step (by repeat (first | (with_reducible first | exact HB.out | apply below_alloc | apply pw_below_drewN | apply below_drew1) | exact HB.out)) hb); clear HB; have HB := n0_; clear n0_; (try clear hb); (try clear hb2); (try clear hk); (try clear hi)))
                            go_ret
                            exact ⟨by first | rfl | (simp [errW_none, errW_some] <;> rfl) | (simp [*, errW_none, errW_some] <;> rfl), by repeat (first | (with_reducible first | exact HB.out | apply below_alloc | apply pw_below_drewN | apply below_drew1) | exact HB.out)⟩
                        · rw [if_neg c35] at H
                          exact absurd H (by simp)
                    · rw [if_neg c26] at H
                      exact absurd H (by simp)
                  · exact absurd rfl c25
              · rw [if_neg c17] at H
                exact absurd H (by simp)
            · rw [if_neg c15] at H
              exact absurd H (by simp)
  · replace c3 := Bool.eq_false_iff.mpr c3
    subst c3
    have H1 : (none) = some r := by rw [if_neg (show ¬ (false = true) by decide)] at H; exact H
    clear H
    have H := H1
    clear H1
    exact absurd H (by simp)

/-- THE ONE PURE STATEMENT of archivistlaw03_UnitOver: yours. -/
def archivistlaw03_UnitOver.Pure : Prop := ∀ (a0 : Int), (Lit.int .u32 a0).wf = true → ∃ k, archivistlaw03_UnitOver.f k a0 = some true
theorem archivistlaw03_UnitOver.walk (P : archivistlaw03_UnitOver.Pure) (a0 : Int) (w : World) (w0 : (Lit.int .u32 a0).wf = true) (hLd : Laid w) :
    Calls Tryd.prog 7 #[.int .u32 a0] w fun e w' => e = .returned (.bool true) ∧ Below w.heap.size w w' := by
  obtain ⟨k, h⟩ := P a0 w0
  refine (archivistlaw03_UnitOver.calls k a0 true w h hLd).mono ?_
  rintro e w' ⟨rfl, hd⟩
  exact ⟨rfl, hd⟩

end Go.Proofs.YtpijoadbaocnpaaDoor.X
