-- Laid by xprint.py, a program of this session's, out of the translation.
import Derived.Test.YtifcnblgpnfehaaX0
import Derived.Test.YtifcnblgpnfehaaX16
import Derived.Test.YtifcnblgpnfehaaX17
namespace Go.Proofs.Ytifcnblgpnfehaa.X
open Go.RowKit Go.Proofs.YtifcnblgpnfehaaW.PrintWords Go.Proofs.YtifcnblgpnfehaaW.PrintLast Go.Proofs.YtifcnblgpnfehaaW.PrintMore
attribute [local go_sem] max2_int min2_int max_two min_two max_three min_three max_four min_four x_isSome   -- for this text's walks alone
set_option linter.unusedVariables false
set_option linter.unusedSimpArgs false

/-! ### archivistlaw07_examples: function 15 -/
def archivistlaw07_examples.f (k : Nat)  : Option (Bool) := (lex_All.f k (⟨#[123, 97, 61, 126, 34, 120, 34, 125, 32, 124, 61, 32, 53, 109, 32, 45, 51]⟩ : ByteArray)).bind fun bt331 => ((lex_All.f k (⟨#[97, 32, 59]⟩ : ByteArray)).bind fun bt336 => ((lex_All.f k (⟨#[]⟩ : ByteArray)).bind fun bt341 => ((lex_Ops.f).bind fun t346 => (if bt331.2.2 = 0 then (if bt331.2.1 = 17 then (if (bt331.1.length : Int) = 8 then (if 2 < (bt331.1.length : Int) then (if ((rd_T33 bt331.1 2).f0) = 4 then (if ((rd_T33 bt331.1 2).f1).toList = ([61, 126] : List UInt8) then (if 3 < (bt331.1.length : Int) then (if ((rd_T33 bt331.1 3).f0) = 2 then (if ((rd_T33 bt331.1 3).f1).toList = ([120] : List UInt8) then (if ((rd_T33 bt331.1 3).f2) = 4 then (if 6 < (bt331.1.length : Int) then (if ((rd_T33 bt331.1 6).f0) = 3 then (if ((rd_T33 bt331.1 6).f1).toList = ([53, 109] : List UInt8) then (if 7 < (bt331.1.length : Int) then (if ((rd_T33 bt331.1 7).f1).toList = ([45, 51] : List UInt8) then (if bt336.2.1 = 2 then (if bt336.2.2 = 2 then (if bt341.2.1 = 0 then (if bt341.2.2 = 0 then (if (t346.length : Int) = 15 then (if 0 < (t346.length : Int) then (some ((rdOf ByteArray.empty t346 0).toList == ([61, 126] : List UInt8))) else (none)) else (none)) else (none)) else (none)) else (none)) else (none)) else (none)) else (none)) else (none)) else (none)) else (none)) else (none)) else (none)) else (none)) else (none)) else (none)) else (none)) else (none)) else (none)) else (none)) else (none)))))
theorem archivistlaw07_examples.mono : ∀ k, LeO (archivistlaw07_examples.f k ) (archivistlaw07_examples.f (k + 1) ) := by
  intro  k
  unfold archivistlaw07_examples.f
  repeat' first
      | (with_reducible exact lex_All.mono _ _)
      | (with_reducible exact LeO.refl _)
      | (with_reducible exact LeO.none _)
      | (with_reducible refine LeO.ite ?_ ?_)
      | (with_reducible refine LeO.bind ?_ (fun _ => ?_))
      | exact lex_All.mono _ _
      | exact LeO.none _
      | refine LeO.ite ?_ ?_
      | refine LeO.bind ?_ (fun _ => ?_)
set_option maxHeartbeats 8000000 in
set_option maxRecDepth 100000 in
theorem archivistlaw07_examples.calls (k : Nat)  (r : Bool) (w : World) (h : archivistlaw07_examples.f k  = some r) :
    Calls Try.prog 15 #[] w fun e w' => e = .returned (.bool r) ∧ Below w.heap.size w w' := by
  have HB := Aside0.mk (Below.refl w.heap.size w)
  have H : ((lex_All.f k (⟨#[123, 97, 61, 126, 34, 120, 34, 125, 32, 124, 61, 32, 53, 109, 32, 45, 51]⟩ : ByteArray)).bind fun bt331 => ((lex_All.f k (⟨#[97, 32, 59]⟩ : ByteArray)).bind fun bt336 => ((lex_All.f k (⟨#[]⟩ : ByteArray)).bind fun bt341 => ((lex_Ops.f).bind fun t346 => (if bt331.2.2 = 0 then (if bt331.2.1 = 17 then (if (bt331.1.length : Int) = 8 then (if 2 < (bt331.1.length : Int) then (if ((rd_T33 bt331.1 2).f0) = 4 then (if ((rd_T33 bt331.1 2).f1).toList = ([61, 126] : List UInt8) then (if 3 < (bt331.1.length : Int) then (if ((rd_T33 bt331.1 3).f0) = 2 then (if ((rd_T33 bt331.1 3).f1).toList = ([120] : List UInt8) then (if ((rd_T33 bt331.1 3).f2) = 4 then (if 6 < (bt331.1.length : Int) then (if ((rd_T33 bt331.1 6).f0) = 3 then (if ((rd_T33 bt331.1 6).f1).toList = ([53, 109] : List UInt8) then (if 7 < (bt331.1.length : Int) then (if ((rd_T33 bt331.1 7).f1).toList = ([45, 51] : List UInt8) then (if bt336.2.1 = 2 then (if bt336.2.2 = 2 then (if bt341.2.1 = 0 then (if bt341.2.2 = 0 then (if (t346.length : Int) = 15 then (if 0 < (t346.length : Int) then (some ((rdOf ByteArray.empty t346 0).toList == ([61, 126] : List UInt8))) else (none)) else (none)) else (none)) else (none)) else (none)) else (none)) else (none)) else (none)) else (none)) else (none)) else (none)) else (none)) else (none)) else (none)) else (none)) else (none)) else (none)) else (none)) else (none)) else (none)) else (none)))))) = some r := h
  clear h
  replace H := Option.bind_eq_some_iff.mp H
  obtain ⟨⟨t331, t332, t333⟩, A10, H⟩ := H
  replace H : ((lex_All.f k (⟨#[97, 32, 59]⟩ : ByteArray)).bind fun bt336 => ((lex_All.f k (⟨#[]⟩ : ByteArray)).bind fun bt341 => ((lex_Ops.f).bind fun t346 => (if t333 = 0 then (if t332 = 17 then (if (t331.length : Int) = 8 then (if 2 < (t331.length : Int) then (if ((rd_T33 t331 2).f0) = 4 then (if ((rd_T33 t331 2).f1).toList = ([61, 126] : List UInt8) then (if 3 < (t331.length : Int) then (if ((rd_T33 t331 3).f0) = 2 then (if ((rd_T33 t331 3).f1).toList = ([120] : List UInt8) then (if ((rd_T33 t331 3).f2) = 4 then (if 6 < (t331.length : Int) then (if ((rd_T33 t331 6).f0) = 3 then (if ((rd_T33 t331 6).f1).toList = ([53, 109] : List UInt8) then (if 7 < (t331.length : Int) then (if ((rd_T33 t331 7).f1).toList = ([45, 51] : List UInt8) then (if bt336.2.1 = 2 then (if bt336.2.2 = 2 then (if bt341.2.1 = 0 then (if bt341.2.2 = 0 then (if (t346.length : Int) = 15 then (if 0 < (t346.length : Int) then (some ((rdOf ByteArray.empty t346 0).toList == ([61, 126] : List UInt8))) else (none)) else (none)) else (none)) else (none)) else (none)) else (none)) else (none)) else (none)) else (none)) else (none)) else (none)) else (none)) else (none)) else (none)) else (none)) else (none)) else (none)) else (none)) else (none)) else (none)) else (none))))) = some r := H
  have A1 := Aside0.mk A10
  clear A10
  replace H := Option.bind_eq_some_iff.mp H
  obtain ⟨⟨t336, t337, t338⟩, A20, H⟩ := H
  replace H : ((lex_All.f k (⟨#[]⟩ : ByteArray)).bind fun bt341 => ((lex_Ops.f).bind fun t346 => (if t333 = 0 then (if t332 = 17 then (if (t331.length : Int) = 8 then (if 2 < (t331.length : Int) then (if ((rd_T33 t331 2).f0) = 4 then (if ((rd_T33 t331 2).f1).toList = ([61, 126] : List UInt8) then (if 3 < (t331.length : Int) then (if ((rd_T33 t331 3).f0) = 2 then (if ((rd_T33 t331 3).f1).toList = ([120] : List UInt8) then (if ((rd_T33 t331 3).f2) = 4 then (if 6 < (t331.length : Int) then (if ((rd_T33 t331 6).f0) = 3 then (if ((rd_T33 t331 6).f1).toList = ([53, 109] : List UInt8) then (if 7 < (t331.length : Int) then (if ((rd_T33 t331 7).f1).toList = ([45, 51] : List UInt8) then (if t337 = 2 then (if t338 = 2 then (if bt341.2.1 = 0 then (if bt341.2.2 = 0 then (if (t346.length : Int) = 15 then (if 0 < (t346.length : Int) then (some ((rdOf ByteArray.empty t346 0).toList == ([61, 126] : List UInt8))) else (none)) else (none)) else (none)) else (none)) else (none)) else (none)) else (none)) else (none)) else (none)) else (none)) else (none)) else (none)) else (none)) else (none)) else (none)) else (none)) else (none)) else (none)) else (none)) else (none)) else (none)))) = some r := H
  have A2 := Aside0.mk A20
  clear A20
  replace H := Option.bind_eq_some_iff.mp H
  obtain ⟨⟨t341, t342, t343⟩, A30, H⟩ := H
  replace H : ((lex_Ops.f).bind fun t346 => (if t333 = 0 then (if t332 = 17 then (if (t331.length : Int) = 8 then (if 2 < (t331.length : Int) then (if ((rd_T33 t331 2).f0) = 4 then (if ((rd_T33 t331 2).f1).toList = ([61, 126] : List UInt8) then (if 3 < (t331.length : Int) then (if ((rd_T33 t331 3).f0) = 2 then (if ((rd_T33 t331 3).f1).toList = ([120] : List UInt8) then (if ((rd_T33 t331 3).f2) = 4 then (if 6 < (t331.length : Int) then (if ((rd_T33 t331 6).f0) = 3 then (if ((rd_T33 t331 6).f1).toList = ([53, 109] : List UInt8) then (if 7 < (t331.length : Int) then (if ((rd_T33 t331 7).f1).toList = ([45, 51] : List UInt8) then (if t337 = 2 then (if t338 = 2 then (if t342 = 0 then (if t343 = 0 then (if (t346.length : Int) = 15 then (if 0 < (t346.length : Int) then (some ((rdOf ByteArray.empty t346 0).toList == ([61, 126] : List UInt8))) else (none)) else (none)) else (none)) else (none)) else (none)) else (none)) else (none)) else (none)) else (none)) else (none)) else (none)) else (none)) else (none)) else (none)) else (none)) else (none)) else (none)) else (none)) else (none)) else (none)) else (none))) = some r := H
  have A3 := Aside0.mk A30
  clear A30
  replace H := Option.bind_eq_some_iff.mp H
  obtain ⟨t346, A40, H⟩ := H
  replace H : (if t333 = 0 then (if t332 = 17 then (if (t331.length : Int) = 8 then (if 2 < (t331.length : Int) then (if ((rd_T33 t331 2).f0) = 4 then (if ((rd_T33 t331 2).f1).toList = ([61, 126] : List UInt8) then (if 3 < (t331.length : Int) then (if ((rd_T33 t331 3).f0) = 2 then (if ((rd_T33 t331 3).f1).toList = ([120] : List UInt8) then (if ((rd_T33 t331 3).f2) = 4 then (if 6 < (t331.length : Int) then (if ((rd_T33 t331 6).f0) = 3 then (if ((rd_T33 t331 6).f1).toList = ([53, 109] : List UInt8) then (if 7 < (t331.length : Int) then (if ((rd_T33 t331 7).f1).toList = ([45, 51] : List UInt8) then (if t337 = 2 then (if t338 = 2 then (if t342 = 0 then (if t343 = 0 then (if (t346.length : Int) = 15 then (if 0 < (t346.length : Int) then (some ((rdOf ByteArray.empty t346 0).toList == ([61, 126] : List UInt8))) else (none)) else (none)) else (none)) else (none)) else (none)) else (none)) else (none)) else (none)) else (none)) else (none)) else (none)) else (none)) else (none)) else (none)) else (none)) else (none)) else (none)) else (none)) else (none)) else (none)) else (none)) = some r := H
  have A4 := Aside0.mk A40
  clear A40
  by_cases c5 : t333 = 0
  · rw [if_pos c5] at H
    have c5b0 : (t333 == 0) = true := beq_iff_eq.mpr c5
    have c5b1 : (t333 != 0) = false := bne_eq_false_iff_eq.mpr c5
    clear c5
    by_cases c6 : t332 = 17
    · rw [if_pos c6] at H
      have c6b0 : (t332 == 17) = true := beq_iff_eq.mpr c6
      have c6b1 : (t332 != 17) = false := bne_eq_false_iff_eq.mpr c6
      clear c6
      by_cases c7 : (t331.length : Int) = 8
      · rw [if_pos c7] at H
        have c7b0 : ((t331.length : Int) == 8) = true := beq_iff_eq.mpr c7
        have c7b1 : ((t331.length : Int) != 8) = false := bne_eq_false_iff_eq.mpr c7
        clear c7
        by_cases c8 : 2 < (t331.length : Int)
        · rw [if_pos c8] at H
          have c8b0 : decide (2 < (t331.length : Int)) = true := decide_eq_true c8
          have c8b1 : decide (2 < t331.length) = true := decide_eq_true (by omega)
          clear c8
          by_cases c9 : ((rd_T33 t331 2).f0) = 4
          · rw [if_pos c9] at H
            have c9b0 : (((rd_T33 t331 2).f0) == 4) = true := beq_iff_eq.mpr c9
            have c9b1 : (((rd_T33 t331 2).f0) != 4) = false := bne_eq_false_iff_eq.mpr c9
            clear c9
            by_cases c10 : ((rd_T33 t331 2).f1).toList = ([61, 126] : List UInt8)
            · rw [if_pos c10] at H
              have c10b0 : (((rd_T33 t331 2).f1).toList == ([61, 126] : List UInt8)) = true := beq_iff_eq.mpr c10
              have c10b1 : (((rd_T33 t331 2).f1).toList != ([61, 126] : List UInt8)) = false := bne_eq_false_iff_eq.mpr c10
              clear c10
              by_cases c11 : 3 < (t331.length : Int)
              · rw [if_pos c11] at H
                have c11b0 : decide (3 < (t331.length : Int)) = true := decide_eq_true c11
                have c11b1 : decide (3 < t331.length) = true := decide_eq_true (by omega)
                clear c11
                by_cases c12 : ((rd_T33 t331 3).f0) = 2
                · rw [if_pos c12] at H
                  have c12b0 : (((rd_T33 t331 3).f0) == 2) = true := beq_iff_eq.mpr c12
                  have c12b1 : (((rd_T33 t331 3).f0) != 2) = false := bne_eq_false_iff_eq.mpr c12
                  clear c12
                  by_cases c13 : ((rd_T33 t331 3).f1).toList = ([120] : List UInt8)
                  · rw [if_pos c13] at H
                    have c13b0 : (((rd_T33 t331 3).f1).toList == ([120] : List UInt8)) = true := beq_iff_eq.mpr c13
                    have c13b1 : (((rd_T33 t331 3).f1).toList != ([120] : List UInt8)) = false := bne_eq_false_iff_eq.mpr c13
                    clear c13
                    by_cases c14 : ((rd_T33 t331 3).f2) = 4
                    · rw [if_pos c14] at H
                      have c14b0 : (((rd_T33 t331 3).f2) == 4) = true := beq_iff_eq.mpr c14
                      have c14b1 : (((rd_T33 t331 3).f2) != 4) = false := bne_eq_false_iff_eq.mpr c14
                      clear c14
                      by_cases c15 : 6 < (t331.length : Int)
                      · rw [if_pos c15] at H
                        have c15b0 : decide (6 < (t331.length : Int)) = true := decide_eq_true c15
                        have c15b1 : decide (6 < t331.length) = true := decide_eq_true (by omega)
                        clear c15
                        by_cases c16 : ((rd_T33 t331 6).f0) = 3
                        · rw [if_pos c16] at H
                          have c16b0 : (((rd_T33 t331 6).f0) == 3) = true := beq_iff_eq.mpr c16
                          have c16b1 : (((rd_T33 t331 6).f0) != 3) = false := bne_eq_false_iff_eq.mpr c16
                          clear c16
                          by_cases c17 : ((rd_T33 t331 6).f1).toList = ([53, 109] : List UInt8)
                          · rw [if_pos c17] at H
                            have c17b0 : (((rd_T33 t331 6).f1).toList == ([53, 109] : List UInt8)) = true := beq_iff_eq.mpr c17
                            have c17b1 : (((rd_T33 t331 6).f1).toList != ([53, 109] : List UInt8)) = false := bne_eq_false_iff_eq.mpr c17
                            clear c17
                            by_cases c18 : 7 < (t331.length : Int)
                            · rw [if_pos c18] at H
                              have c18b0 : decide (7 < (t331.length : Int)) = true := decide_eq_true c18
                              have c18b1 : decide (7 < t331.length) = true := decide_eq_true (by omega)
                              clear c18
                              by_cases c19 : ((rd_T33 t331 7).f1).toList = ([45, 51] : List UInt8)
                              · rw [if_pos c19] at H
                                have c19b0 : (((rd_T33 t331 7).f1).toList == ([45, 51] : List UInt8)) = true := beq_iff_eq.mpr c19
                                have c19b1 : (((rd_T33 t331 7).f1).toList != ([45, 51] : List UInt8)) = false := bne_eq_false_iff_eq.mpr c19
                                clear c19
                                by_cases c20 : t337 = 2
                                · rw [if_pos c20] at H
                                  have c20b0 : (t337 == 2) = true := beq_iff_eq.mpr c20
                                  have c20b1 : (t337 != 2) = false := bne_eq_false_iff_eq.mpr c20
                                  clear c20
                                  by_cases c21 : t338 = 2
                                  · rw [if_pos c21] at H
                                    have c21b0 : (t338 == 2) = true := beq_iff_eq.mpr c21
                                    have c21b1 : (t338 != 2) = false := bne_eq_false_iff_eq.mpr c21
                                    clear c21
                                    by_cases c22 : t342 = 0
                                    · rw [if_pos c22] at H
                                      have c22b0 : (t342 == 0) = true := beq_iff_eq.mpr c22
                                      have c22b1 : (t342 != 0) = false := bne_eq_false_iff_eq.mpr c22
                                      clear c22
                                      by_cases c23 : t343 = 0
                                      · rw [if_pos c23] at H
                                        have c23b0 : (t343 == 0) = true := beq_iff_eq.mpr c23
                                        have c23b1 : (t343 != 0) = false := bne_eq_false_iff_eq.mpr c23
                                        clear c23
                                        by_cases c24 : (t346.length : Int) = 15
                                        · rw [if_pos c24] at H
                                          have c24b0 : ((t346.length : Int) == 15) = true := beq_iff_eq.mpr c24
                                          have c24b1 : ((t346.length : Int) != 15) = false := bne_eq_false_iff_eq.mpr c24
                                          clear c24
                                          by_cases c25 : 0 < (t346.length : Int)
                                          · rw [if_pos c25] at H
                                            have c25b0 : decide (0 < (t346.length : Int)) = true := decide_eq_true c25
                                            have c25b1 : decide (0 < t346.length) = true := decide_eq_true (by omega)
                                            clear c25
                                            obtain rfl := Option.some.inj H
                                            go_enter Try.func15, Try.ntmps15
                                            go_wp2_with (first | ((with_reducible refine gate_callee (f := 17) rfl ?_); refine goesL_ (some 12) rfl rfl Try.func17 (by kernel_rfl) rfl #[.string (⟨#[123, 97, 61, 126, 34, 120, 34, 125, 32, 124, 61, 32, 53, 109, 32, 45, 51]⟩ : ByteArray)] rfl (by (try simp only [List.map_toArray, List.map_cons, List.map_nil]); first | done | rfl | (simp only [List.length_drop, List.length_take]; rfl)) ?_; (with_reducible refine (lex_All.calls k (⟨#[123, 97, 61, 126, 34, 120, 34, 125, 32, 124, 61, 32, 53, 109, 32, 45, 51]⟩ : ByteArray) t331 t332 t333 _ A1.out).mono ?_); rintro e w26 ⟨v334, rfl, ho0, hb⟩; refine ⟨_, rfl, ?_⟩; have n0_ := Aside0.mk (Kd.R_lower ho0 (below_size (by repeat (first | (with_reducible first | exact HB.out | apply below_alloc | apply pw_below_drewN | apply below_drew1) | exact HB.out)))); have n1_ := Aside0.mk (below_step (by repeat (first | (with_reducible first | exact HB.out | apply below_alloc | apply pw_below_drewN | apply below_drew1) | exact HB.out)) hb); clear HB; have HO335 := n0_; have HB := n1_; clear n0_ n1_; (try clear hb); (try clear hb2); (try clear hk); (try clear hi); (try clear ho0)) | ((with_reducible refine gate_callee (f := 17) rfl ?_); refine goesL_ (some 17) rfl rfl Try.func17 (by kernel_rfl) rfl #[.string (⟨#[97, 32, 59]⟩ : ByteArray)] rfl (by (try simp only [List.map_toArray, List.map_cons, List.map_nil]); first | done | rfl | (simp only [List.length_drop, List.length_take]; rfl)) ?_; (with_reducible refine (lex_All.calls k (⟨#[97, 32, 59]⟩ : ByteArray) t336 t337 t338 _ A2.out).mono ?_); rintro e w27 ⟨v339, rfl, ho0, hb⟩; refine ⟨_, rfl, ?_⟩; have n0_ := Aside0.mk (Kd.R_elder' (by (with_reducible repeat (first | apply Kd.R_alloc | apply Kd.R_drewN | apply Kd.R_drew)); exact HO335.out) (Kd.R_base ho0) hb); have n1_ := Aside0.mk (Kd.R_lower (Kd.R_new' ho0 (Kd.R_lt (by (with_reducible repeat (first | apply Kd.R_alloc | apply Kd.R_drewN | apply Kd.R_drew)); exact HO335.out))) (below_size (by repeat (first | (with_reducible first | exact HB.out | apply below_alloc | apply pw_below_drewN | apply below_drew1) | exact HB.out)))); have n2_ := Aside0.mk (below_step (by repeat (first | (with_reducible first | exact HB.out | apply below_alloc | apply pw_below_drewN | apply below_drew1) | exact HB.out)) hb); clear HO335; clear HB; have HO335 := n0_; have HO340 := n1_; have HB := n2_; clear n0_ n1_ n2_; (try clear hb); (try clear hb2); (try clear hk); (try clear hi); (try clear ho0)) | ((with_reducible refine gate_callee (f := 17) rfl ?_); refine goesL_ (some 22) rfl rfl Try.func17 (by kernel_rfl) rfl #[.string (⟨#[]⟩ : ByteArray)] rfl (by (try simp only [List.map_toArray, List.map_cons, List.map_nil]); first | done | rfl | (simp only [List.length_drop, List.length_take]; rfl)) ?_; (with_reducible refine (lex_All.calls k (⟨#[]⟩ : ByteArray) t341 t342 t343 _ A3.out).mono ?_); rintro e w28 ⟨v344, rfl, ho0, hb⟩; refine ⟨_, rfl, ?_⟩; have n0_ := Aside0.mk (Kd.R_elder' (by (with_reducible repeat (first | apply Kd.R_alloc | apply Kd.R_drewN | apply Kd.R_drew)); exact HO335.out) (Kd.R_base ho0) hb); have n1_ := Aside0.mk (Kd.R_elder' (by (with_reducible repeat (first | apply Kd.R_alloc | apply Kd.R_drewN | apply Kd.R_drew)); exact HO340.out) (Kd.R_base ho0) hb); have n2_ := Aside0.mk (Kd.R_lower (Kd.R_new' (Kd.R_new' ho0 (Kd.R_lt (by (with_reducible repeat (first | apply Kd.R_alloc | apply Kd.R_drewN | apply Kd.R_drew)); exact HO335.out))) (Kd.R_lt (by (with_reducible repeat (first | apply Kd.R_alloc | apply Kd.R_drewN | apply Kd.R_drew)); exact HO340.out))) (below_size (by repeat (first | (with_reducible first | exact HB.out | apply below_alloc | apply pw_below_drewN | apply below_drew1) | exact HB.out)))); have n3_ := Aside0.mk (below_step (by repeat (first | (with_reducible first | exact HB.out | apply below_alloc | apply pw_below_drewN | apply below_drew1) | exact HB.out)) hb); clear HO335; clear HO340; clear HB; have HO335 := n0_; have HO340 := n1_; have HO345 := n2_; have HB := n3_; clear n0_ n1_ n2_ n3_; (try clear hb); (try clear hb2); (try clear hk); (try clear hi); (try clear ho0)) | ((with_reducible refine gate_callee (f := 19) rfl ?_); refine goesL_ (some 26) rfl rfl Try.func19 (by kernel_rfl) rfl #[] rfl (by (try simp only [List.map_toArray, List.map_cons, List.map_nil]); first | done | rfl | (simp only [List.length_drop, List.length_take]; rfl)) ?_; (with_reducible refine (lex_Ops.calls  t346 _ A4.out).mono ?_); rintro e w29 ⟨v347, rfl, ho0, hb⟩; refine ⟨_, rfl, ?_⟩; have n0_ := Aside0.mk (Kd.R_below (by (with_reducible repeat (first | apply Kd.R_alloc | apply Kd.R_drewN | apply Kd.R_drew)); exact HO335.out) hb); have n1_ := Aside0.mk (Kd.R_below (by (with_reducible repeat (first | apply Kd.R_alloc | apply Kd.R_drewN | apply Kd.R_drew)); exact HO340.out) hb); have n2_ := Aside0.mk (Kd.R_below (by (with_reducible repeat (first | apply Kd.R_alloc | apply Kd.R_drewN | apply Kd.R_drew)); exact HO345.out) hb); have n3_ := Aside0.mk (Kd.R_lower ho0 (below_size (by repeat (first | (with_reducible first | exact HB.out | apply below_alloc | apply pw_below_drewN | apply below_drew1) | exact HB.out)))); have n4_ := Aside0.mk (below_step (by repeat (first | (with_reducible first | exact HB.out | apply below_alloc | apply pw_below_drewN | apply below_drew1) | exact HB.out)) hb); clear HO335; clear HO340; clear HO345; clear HB; have HO335 := n0_; have HO340 := n1_; have HO345 := n2_; have HO348 := n3_; have HB := n4_; clear n0_ n1_ n2_ n3_ n4_; (try clear hb); (try clear hb2); (try clear hk); (try clear hi); (try clear ho0); obtain ⟨Ao30, co30, eo30⟩ := Kd.R_slice HO335.out; subst eo30; have p349 : 0 ≤ (2 : Int) := (by omega); have q349 : 2 < (t331.length : Int) := of_decide_eq_true (by first | (with_reducible assumption) | assumption); obtain ⟨ad349, e349, hx349_0, hx349_1, hx349_2⟩ := at_T33 (Kd.R_reads' HO335.out).2.2 2 p349 q349; cases e349; (try simp only [show (2 : Int).toNat = 2 from rfl, Nat.reduceMul, Nat.reduceEqDiff, Go.Addr.add, ↓reduceIte] at hx349_0); (try simp only [show (2 : Int).toNat = 2 from rfl, Nat.reduceMul, Nat.reduceEqDiff, Go.Addr.add, ↓reduceIte] at hx349_1); (try simp only [show (2 : Int).toNat = 2 from rfl, Nat.reduceMul, Nat.reduceEqDiff, Go.Addr.add, ↓reduceIte] at hx349_2); have qi349 : (2 < t331.length) = True := eq_true (by omega); (try rw [show ((2 : Int)).toNat = 2 from rfl] at hx349_0); (try rw [show 2 * 3 = 6 from rfl] at hx349_0); (try rw [show ((2 : Int)).toNat = 2 from rfl] at hx349_1); (try rw [show 2 * 3 = 6 from rfl] at hx349_1); (try rw [show ((2 : Int)).toNat = 2 from rfl] at hx349_2); (try rw [show 2 * 3 = 6 from rfl] at hx349_2); replace p349 := eq_true p349; replace q349 := eq_true q349; have p350 : 0 ≤ (2 : Int) := (by omega); have q350 : 2 < (t331.length : Int) := of_decide_eq_true (by first | (with_reducible assumption) | assumption); obtain ⟨ad350, e350, hx350_0, hx350_1, hx350_2⟩ := at_T33 (Kd.R_reads' HO335.out).2.2 2 p350 q350; obtain rfl : ad349 = ad350 := (by injection e350); (try simp only [show (2 : Int).toNat = 2 from rfl, Nat.reduceMul, Nat.reduceEqDiff, Go.Addr.add, ↓reduceIte] at hx350_0); (try simp only [show (2 : Int).toNat = 2 from rfl, Nat.reduceMul, Nat.reduceEqDiff, Go.Addr.add, ↓reduceIte] at hx350_1); (try simp only [show (2 : Int).toNat = 2 from rfl, Nat.reduceMul, Nat.reduceEqDiff, Go.Addr.add, ↓reduceIte] at hx350_2); have qi350 : (2 < t331.length) = True := eq_true (by omega); (try rw [show ((2 : Int)).toNat = 2 from rfl] at hx350_0); (try rw [show 2 * 3 = 6 from rfl] at hx350_0); (try rw [show ((2 : Int)).toNat = 2 from rfl] at hx350_1); (try rw [show 2 * 3 = 6 from rfl] at hx350_1); (try rw [show ((2 : Int)).toNat = 2 from rfl] at hx350_2); (try rw [show 2 * 3 = 6 from rfl] at hx350_2); replace p350 := eq_true p350; replace q350 := eq_true q350; have p351 : 0 ≤ (3 : Int) := (by omega); have q351 : 3 < (t331.length : Int) := of_decide_eq_true (by first | (with_reducible assumption) | assumption); obtain ⟨ad351, e351, hx351_0, hx351_1, hx351_2⟩ := at_T33 (Kd.R_reads' HO335.out).2.2 3 p351 q351; obtain rfl : ad349 = ad351 := (by injection e351); (try simp only [show (3 : Int).toNat = 3 from rfl, Nat.reduceMul, Nat.reduceEqDiff, Go.Addr.add, ↓reduceIte] at hx351_0); (try simp only [show (3 : Int).toNat = 3 from rfl, Nat.reduceMul, Nat.reduceEqDiff, Go.Addr.add, ↓reduceIte] at hx351_1); (try simp only [show (3 : Int).toNat = 3 from rfl, Nat.reduceMul, Nat.reduceEqDiff, Go.Addr.add, ↓reduceIte] at hx351_2); have qi351 : (3 < t331.length) = True := eq_true (by omega); (try rw [show ((3 : Int)).toNat = 3 from rfl] at hx351_0); (try rw [show 3 * 3 = 9 from rfl] at hx351_0); (try rw [show ((3 : Int)).toNat = 3 from rfl] at hx351_1); (try rw [show 3 * 3 = 9 from rfl] at hx351_1); (try rw [show ((3 : Int)).toNat = 3 from rfl] at hx351_2); (try rw [show 3 * 3 = 9 from rfl] at hx351_2); replace p351 := eq_true p351; replace q351 := eq_true q351; have p352 : 0 ≤ (3 : Int) := (by omega); have q352 : 3 < (t331.length : Int) := of_decide_eq_true (by first | (with_reducible assumption) | assumption); obtain ⟨ad352, e352, hx352_0, hx352_1, hx352_2⟩ := at_T33 (Kd.R_reads' HO335.out).2.2 3 p352 q352; obtain rfl : ad349 = ad352 := (by injection e352); (try simp only [show (3 : Int).toNat = 3 from rfl, Nat.reduceMul, Nat.reduceEqDiff, Go.Addr.add, ↓reduceIte] at hx352_0); (try simp only [show (3 : Int).toNat = 3 from rfl, Nat.reduceMul, Nat.reduceEqDiff, Go.Addr.add, ↓reduceIte] at hx352_1); (try simp only [show (3 : Int).toNat = 3 from rfl, Nat.reduceMul, Nat.reduceEqDiff, Go.Addr.add, ↓reduceIte] at hx352_2); have qi352 : (3 < t331.length) = True := eq_true (by omega); (try rw [show ((3 : Int)).toNat = 3 from rfl] at hx352_0); (try rw [show 3 * 3 = 9 from rfl] at hx352_0); (try rw [show ((3 : Int)).toNat = 3 from rfl] at hx352_1); (try rw [show 3 * 3 = 9 from rfl] at hx352_1); (try rw [show ((3 : Int)).toNat = 3 from rfl] at hx352_2); (try rw [show 3 * 3 = 9 from rfl] at hx352_2); replace p352 := eq_true p352; replace q352 := eq_true q352; have p353 : 0 ≤ (3 : Int) := (by omega); have q353 : 3 < (t331.length : Int) := of_decide_eq_true (by first | (with_reducible assumption) | assumption); obtain ⟨ad353, e353, hx353_0, hx353_1, hx353_2⟩ := at_T33 (Kd.R_reads' HO335.out).2.2 3 p353 q353; obtain rfl : ad349 = ad353 := (by injection e353); (try simp only [show (3 : Int).toNat = 3 from rfl, Nat.reduceMul, Nat.reduceEqDiff, Go.Addr.add, ↓reduceIte] at hx353_0); (try simp only [show (3 : Int).toNat = 3 from rfl, Nat.reduceMul, Nat.reduceEqDiff, Go.Addr.add, ↓reduceIte] at hx353_1); (try simp only [show (3 : Int).toNat = 3 from rfl, Nat.reduceMul, Nat.reduceEqDiff, Go.Addr.add, ↓reduceIte] at hx353_2); have qi353 : (3 < t331.length) = True := eq_true (by omega); (try rw [show ((3 : Int)).toNat = 3 from rfl] at hx353_0); (try rw [show 3 * 3 = 9 from rfl] at hx353_0); (try rw [show ((3 : Int)).toNat = 3 from rfl] at hx353_1); (try rw [show 3 * 3 = 9 from rfl] at hx353_1); (try rw [show ((3 : Int)).toNat = 3 from rfl] at hx353_2); (try rw [show 3 * 3 = 9 from rfl] at hx353_2); replace p353 := eq_true p353; replace q353 := eq_true q353; have p354 : 0 ≤ (6 : Int) := (by omega); have q354 : 6 < (t331.length : Int) := of_decide_eq_true (by first | (with_reducible assumption) | assumption); obtain ⟨ad354, e354, hx354_0, hx354_1, hx354_2⟩ := at_T33 (Kd.R_reads' HO335.out).2.2 6 p354 q354; obtain rfl : ad349 = ad354 := (by injection e354); (try simp only [show (6 : Int).toNat = 6 from rfl, Nat.reduceMul, Nat.reduceEqDiff, Go.Addr.add, ↓reduceIte] at hx354_0); (try simp only [show (6 : Int).toNat = 6 from rfl, Nat.reduceMul, Nat.reduceEqDiff, Go.Addr.add, ↓reduceIte] at hx354_1); (try simp only [show (6 : Int).toNat = 6 from rfl, Nat.reduceMul, Nat.reduceEqDiff, Go.Addr.add, ↓reduceIte] at hx354_2); have qi354 : (6 < t331.length) = True := eq_true (by omega); (try rw [show ((6 : Int)).toNat = 6 from rfl] at hx354_0); (try rw [show 6 * 3 = 18 from rfl] at hx354_0); (try rw [show ((6 : Int)).toNat = 6 from rfl] at hx354_1); (try rw [show 6 * 3 = 18 from rfl] at hx354_1); (try rw [show ((6 : Int)).toNat = 6 from rfl] at hx354_2); (try rw [show 6 * 3 = 18 from rfl] at hx354_2); replace p354 := eq_true p354; replace q354 := eq_true q354; have p355 : 0 ≤ (6 : Int) := (by omega); have q355 : 6 < (t331.length : Int) := of_decide_eq_true (by first | (with_reducible assumption) | assumption); obtain ⟨ad355, e355, hx355_0, hx355_1, hx355_2⟩ := at_T33 (Kd.R_reads' HO335.out).2.2 6 p355 q355; obtain rfl : ad349 = ad355 := (by injection e355); (try simp only [show (6 : Int).toNat = 6 from rfl, Nat.reduceMul, Nat.reduceEqDiff, Go.Addr.add, ↓reduceIte] at hx355_0); (try simp only [show (6 : Int).toNat = 6 from rfl, Nat.reduceMul, Nat.reduceEqDiff, Go.Addr.add, ↓reduceIte] at hx355_1); (try simp only [show (6 : Int).toNat = 6 from rfl, Nat.reduceMul, Nat.reduceEqDiff, Go.Addr.add, ↓reduceIte] at hx355_2); have qi355 : (6 < t331.length) = True := eq_true (by omega); (try rw [show ((6 : Int)).toNat = 6 from rfl] at hx355_0); (try rw [show 6 * 3 = 18 from rfl] at hx355_0); (try rw [show ((6 : Int)).toNat = 6 from rfl] at hx355_1); (try rw [show 6 * 3 = 18 from rfl] at hx355_1); (try rw [show ((6 : Int)).toNat = 6 from rfl] at hx355_2); (try rw [show 6 * 3 = 18 from rfl] at hx355_2); replace p355 := eq_true p355; replace q355 := eq_true q355; have p356 : 0 ≤ (7 : Int) := (by omega); have q356 : 7 < (t331.length : Int) := of_decide_eq_true (by first | (with_reducible assumption) | assumption); obtain ⟨ad356, e356, hx356_0, hx356_1, hx356_2⟩ := at_T33 (Kd.R_reads' HO335.out).2.2 7 p356 q356; obtain rfl : ad349 = ad356 := (by injection e356); (try simp only [show (7 : Int).toNat = 7 from rfl, Nat.reduceMul, Nat.reduceEqDiff, Go.Addr.add, ↓reduceIte] at hx356_0); (try simp only [show (7 : Int).toNat = 7 from rfl, Nat.reduceMul, Nat.reduceEqDiff, Go.Addr.add, ↓reduceIte] at hx356_1); (try simp only [show (7 : Int).toNat = 7 from rfl, Nat.reduceMul, Nat.reduceEqDiff, Go.Addr.add, ↓reduceIte] at hx356_2); have qi356 : (7 < t331.length) = True := eq_true (by omega); (try rw [show ((7 : Int)).toNat = 7 from rfl] at hx356_0); (try rw [show 7 * 3 = 21 from rfl] at hx356_0); (try rw [show ((7 : Int)).toNat = 7 from rfl] at hx356_1); (try rw [show 7 * 3 = 21 from rfl] at hx356_1); (try rw [show ((7 : Int)).toNat = 7 from rfl] at hx356_2); (try rw [show 7 * 3 = 21 from rfl] at hx356_2); replace p356 := eq_true p356; replace q356 := eq_true q356; obtain ⟨Ao31, co31, eo31⟩ := Kd.R_slice HO348.out; subst eo31; have p357 : 0 ≤ (0 : Int) := (by omega); have q357 : 0 < (t346.length : Int) := of_decide_eq_true (by first | (with_reducible assumption) | assumption); obtain ⟨ad357, e357, hx357_0⟩ := Kd.at_string (Kd.R_reads' HO348.out).2.2 0 p357 q357; cases e357; have qi357 : (0 < t346.length) = True := eq_true (by omega); (try rw [show ((0 : Int)).toNat = 0 from rfl] at hx357_0); (try rw [Addr.add_zero'] at hx357_0); replace p357 := eq_true p357; replace q357 := eq_true q357))
                                            go_ret
                                            exact ⟨by first | rfl | (simp [errW_none, errW_some] <;> rfl) | (simp [*, errW_none, errW_some] <;> rfl), by repeat (first | (with_reducible first | exact HB.out | apply below_alloc | apply pw_below_drewN | apply below_drew1) | exact HB.out)⟩
                                          · rw [if_neg c25] at H
                                            exact absurd H (by simp)
                                        · rw [if_neg c24] at H
                                          exact absurd H (by simp)
                                      · rw [if_neg c23] at H
                                        exact absurd H (by simp)
                                    · rw [if_neg c22] at H
                                      exact absurd H (by simp)
                                  · rw [if_neg c21] at H
                                    exact absurd H (by simp)
                                · rw [if_neg c20] at H
                                  exact absurd H (by simp)
                              · rw [if_neg c19] at H
                                exact absurd H (by simp)
                            · rw [if_neg c18] at H
                              exact absurd H (by simp)
                          · rw [if_neg c17] at H
                            exact absurd H (by simp)
                        · rw [if_neg c16] at H
                          exact absurd H (by simp)
                      · rw [if_neg c15] at H
                        exact absurd H (by simp)
                    · rw [if_neg c14] at H
                      exact absurd H (by simp)
                  · rw [if_neg c13] at H
                    exact absurd H (by simp)
                · rw [if_neg c12] at H
                  exact absurd H (by simp)
              · rw [if_neg c11] at H
                exact absurd H (by simp)
            · rw [if_neg c10] at H
              exact absurd H (by simp)
          · rw [if_neg c9] at H
            exact absurd H (by simp)
        · rw [if_neg c8] at H
          exact absurd H (by simp)
      · rw [if_neg c7] at H
        exact absurd H (by simp)
    · rw [if_neg c6] at H
      exact absurd H (by simp)
  · rw [if_neg c5] at H
    exact absurd H (by simp)

/-! ### archivistlaw07_words: function 16 -/
mutual
def archivistlaw07_words.l0 : Nat → List Int → List ByteArray → ByteArray → Int → Option (ByteArray)
  | 0, _, _, _, _ => none
  | k + 1, x0, x3, x4, x5 => if x5 < (x0.length : Int) then (archivistlaw07_words.j1 k x0 x3 x4 x5 (decide (x5 < 40))) else (archivistlaw07_words.j1 k x0 x3 x4 x5 false)
def archivistlaw07_words.j1 : Nat → List Int → List ByteArray → ByteArray → Int → Bool → Option (ByteArray)
  | 0, _, _, _, _, _ => none
  | k + 1, x0, x3, x4, x5, x15 => if x15 = true then (if 0 ≤ x5 then (if x5 < (x0.length : Int) then (if (rd x0 x5) < 220 then (if 0 ≤ (Int.tmod (Int.tmod (rd x0 x5) 26) 32) then (if (Int.tmod (Int.tmod (rd x0 x5) 26) 32) < (x3.length : Int) then (if x4.size + (rdOf ByteArray.empty x3 (Int.tmod (Int.tmod (rd x0 x5) 26) 32)).size ≤ 9223372036854775807 then (archivistlaw07_words.l0 k x0 x3 (x4 ++ (rdOf ByteArray.empty x3 (Int.tmod (Int.tmod (rd x0 x5) 26) 32))) (wrap64 (x5 + 1))) else (none)) else (none)) else (none)) else (if 0 ≤ (Int.tmod (rd x0 x5) 32) then (if (Int.tmod (rd x0 x5) 32) < (x3.length : Int) then (if x4.size + (rdOf ByteArray.empty x3 (Int.tmod (rd x0 x5) 32)).size ≤ 9223372036854775807 then (archivistlaw07_words.l0 k x0 x3 (x4 ++ (rdOf ByteArray.empty x3 (Int.tmod (rd x0 x5) 32))) (wrap64 (x5 + 1))) else (none)) else (none)) else (none))) else (none)) else (none)) else (some x4)
end
def archivistlaw07_words.f (k : Nat) (l0 : List Int) : Option (ByteArray) := archivistlaw07_words.l0 k l0 (([(⟨#[123]⟩ : ByteArray), (⟨#[125]⟩ : ByteArray), (⟨#[44]⟩ : ByteArray), (⟨#[61]⟩ : ByteArray), (⟨#[33, 61]⟩ : ByteArray), (⟨#[61, 126]⟩ : ByteArray), (⟨#[33, 126]⟩ : ByteArray), (⟨#[124, 61]⟩ : ByteArray), (⟨#[124, 126]⟩ : ByteArray), (⟨#[124]⟩ : ByteArray), (⟨#[61, 61]⟩ : ByteArray), (⟨#[62]⟩ : ByteArray), (⟨#[62, 61]⟩ : ByteArray), (⟨#[60]⟩ : ByteArray), (⟨#[60, 61]⟩ : ByteArray), (⟨#[97, 112, 112]⟩ : ByteArray), (⟨#[108, 118, 108]⟩ : ByteArray), (⟨#[108, 111, 103, 102, 109, 116]⟩ : ByteArray), (⟨#[34, 97, 34]⟩ : ByteArray), (⟨#[34, 120, 42, 34]⟩ : ByteArray), (⟨#[53]⟩ : ByteArray), (⟨#[53, 109]⟩ : ByteArray), (⟨#[50, 75, 66]⟩ : ByteArray), (⟨#[45, 55]⟩ : ByteArray), (⟨#[32]⟩ : ByteArray), (⟨#[10]⟩ : ByteArray), (⟨#[34]⟩ : ByteArray), (⟨#[92]⟩ : ByteArray), (⟨#[59]⟩ : ByteArray), (⟨#[45]⟩ : ByteArray), (⟨#[95, 97, 57]⟩ : ByteArray), (⟨#[48, 120]⟩ : ByteArray)] : List ByteArray)) (⟨#[]⟩ : ByteArray) 0
theorem archivistlaw07_words.mono_l : ∀ k, (∀ y0 y1 y2 y3, LeO (archivistlaw07_words.l0 k y0 y1 y2 y3) (archivistlaw07_words.l0 (k + 1) y0 y1 y2 y3)) ∧ (∀ y0 y1 y2 y3 y4, LeO (archivistlaw07_words.j1 k y0 y1 y2 y3 y4) (archivistlaw07_words.j1 (k + 1) y0 y1 y2 y3 y4))
  | 0 => ⟨fun _ _ _ _ r h => by simp [archivistlaw07_words.l0] at h, fun _ _ _ _ _ r h => by simp [archivistlaw07_words.j1] at h⟩
  | k + 1 => by
    obtain ⟨ih0, ih1⟩ := archivistlaw07_words.mono_l k
    refine ⟨?_, ?_⟩
    · intro y0 y1 y2 y3
      unfold archivistlaw07_words.l0
      repeat' first
      | (with_reducible exact ih0 _ _ _ _)
      | (with_reducible exact ih1 _ _ _ _ _)
      | (with_reducible exact LeO.refl _)
      | (with_reducible exact LeO.none _)
      | (with_reducible refine LeO.ite ?_ ?_)
      | (with_reducible refine LeO.bind ?_ (fun _ => ?_))
      | exact ih0 _ _ _ _
      | exact ih1 _ _ _ _ _
      | exact LeO.none _
      | refine LeO.ite ?_ ?_
      | refine LeO.bind ?_ (fun _ => ?_)
    · intro y0 y1 y2 y3 y4
      unfold archivistlaw07_words.j1
      repeat' first
      | (with_reducible exact ih0 _ _ _ _)
      | (with_reducible exact ih1 _ _ _ _ _)
      | (with_reducible exact LeO.refl _)
      | (with_reducible exact LeO.none _)
      | (with_reducible refine LeO.ite ?_ ?_)
      | (with_reducible refine LeO.bind ?_ (fun _ => ?_))
      | exact ih0 _ _ _ _
      | exact ih1 _ _ _ _ _
      | exact LeO.none _
      | refine LeO.ite ?_ ?_
      | refine LeO.bind ?_ (fun _ => ?_)
theorem archivistlaw07_words.mono : ∀ a0 k, LeO (archivistlaw07_words.f k a0) (archivistlaw07_words.f (k + 1) a0) := by
  intro a0 k
  obtain ⟨ih0, ih1⟩ := archivistlaw07_words.mono_l k
  unfold archivistlaw07_words.f
  repeat' first
      | (with_reducible exact ih0 _ _ _ _)
      | (with_reducible exact ih1 _ _ _ _ _)
      | (with_reducible exact LeO.refl _)
      | (with_reducible exact LeO.none _)
      | (with_reducible refine LeO.ite ?_ ?_)
      | (with_reducible refine LeO.bind ?_ (fun _ => ?_))
      | exact ih0 _ _ _ _
      | exact ih1 _ _ _ _ _
      | exact LeO.none _
      | refine LeO.ite ?_ ?_
      | refine LeO.bind ?_ (fun _ => ?_)
set_option maxHeartbeats 8000000 in
set_option maxRecDepth 100000 in
theorem archivistlaw07_words.calls (k : Nat) (A0 : Option Addr) (c0 : Nat) (l0 : List Int) (r : ByteArray) (w : World) (hr0 : Kd.C (Kd.int .u8) w A0 l0.length l0) (hc0 : l0.length ≤ c0) (h : archivistlaw07_words.f k l0 = some r) :
    Calls Try.prog 16 #[.slice A0 l0.length c0] w fun e w' => e = .returned (.string r) ∧ Below w.heap.size w w' := by
  have HR0 := Aside0.mk hr0
  have HC0 := Aside0.mk hc0
  clear hr0 hc0
  have HB := Aside0.mk (Below.refl w.heap.size w)
  have H : (archivistlaw07_words.l0 k l0 (([(⟨#[123]⟩ : ByteArray), (⟨#[125]⟩ : ByteArray), (⟨#[44]⟩ : ByteArray), (⟨#[61]⟩ : ByteArray), (⟨#[33, 61]⟩ : ByteArray), (⟨#[61, 126]⟩ : ByteArray), (⟨#[33, 126]⟩ : ByteArray), (⟨#[124, 61]⟩ : ByteArray), (⟨#[124, 126]⟩ : ByteArray), (⟨#[124]⟩ : ByteArray), (⟨#[61, 61]⟩ : ByteArray), (⟨#[62]⟩ : ByteArray), (⟨#[62, 61]⟩ : ByteArray), (⟨#[60]⟩ : ByteArray), (⟨#[60, 61]⟩ : ByteArray), (⟨#[97, 112, 112]⟩ : ByteArray), (⟨#[108, 118, 108]⟩ : ByteArray), (⟨#[108, 111, 103, 102, 109, 116]⟩ : ByteArray), (⟨#[34, 97, 34]⟩ : ByteArray), (⟨#[34, 120, 42, 34]⟩ : ByteArray), (⟨#[53]⟩ : ByteArray), (⟨#[53, 109]⟩ : ByteArray), (⟨#[50, 75, 66]⟩ : ByteArray), (⟨#[45, 55]⟩ : ByteArray), (⟨#[32]⟩ : ByteArray), (⟨#[10]⟩ : ByteArray), (⟨#[34]⟩ : ByteArray), (⟨#[92]⟩ : ByteArray), (⟨#[59]⟩ : ByteArray), (⟨#[45]⟩ : ByteArray), (⟨#[95, 97, 57]⟩ : ByteArray), (⟨#[48, 120]⟩ : ByteArray)] : List ByteArray)) (⟨#[]⟩ : ByteArray) 0) = some r := h
  clear h
  obtain ⟨y358, hy358⟩ : ∃ y_ : List ByteArray, y_ = (([(⟨#[123]⟩ : ByteArray), (⟨#[125]⟩ : ByteArray), (⟨#[44]⟩ : ByteArray), (⟨#[61]⟩ : ByteArray), (⟨#[33, 61]⟩ : ByteArray), (⟨#[61, 126]⟩ : ByteArray), (⟨#[33, 126]⟩ : ByteArray), (⟨#[124, 61]⟩ : ByteArray), (⟨#[124, 126]⟩ : ByteArray), (⟨#[124]⟩ : ByteArray), (⟨#[61, 61]⟩ : ByteArray), (⟨#[62]⟩ : ByteArray), (⟨#[62, 61]⟩ : ByteArray), (⟨#[60]⟩ : ByteArray), (⟨#[60, 61]⟩ : ByteArray), (⟨#[97, 112, 112]⟩ : ByteArray), (⟨#[108, 118, 108]⟩ : ByteArray), (⟨#[108, 111, 103, 102, 109, 116]⟩ : ByteArray), (⟨#[34, 97, 34]⟩ : ByteArray), (⟨#[34, 120, 42, 34]⟩ : ByteArray), (⟨#[53]⟩ : ByteArray), (⟨#[53, 109]⟩ : ByteArray), (⟨#[50, 75, 66]⟩ : ByteArray), (⟨#[45, 55]⟩ : ByteArray), (⟨#[32]⟩ : ByteArray), (⟨#[10]⟩ : ByteArray), (⟨#[34]⟩ : ByteArray), (⟨#[92]⟩ : ByteArray), (⟨#[59]⟩ : ByteArray), (⟨#[45]⟩ : ByteArray), (⟨#[95, 97, 57]⟩ : ByteArray), (⟨#[48, 120]⟩ : ByteArray)] : List ByteArray)) := ⟨_, rfl⟩
  replace H : (archivistlaw07_words.l0 k l0 y358 (⟨#[]⟩ : ByteArray) 0) = some r := by first | (rw [hy358]; with_reducible exact H) | (have H2_ := (Option.bind_some _ _).symm.trans H; rw [hy358]; with_reducible exact H2_) | (have H2_ := (Option.bind_some _ _).symm.trans H; with_reducible exact H2_) | with_reducible exact H | (rw [hy358]; exact H) | exact H
  have Ny358 := Aside0.mk hy358
  clear hy358
  have H' := Aside0.mk H
  clear H
  go_enter Try.func16, Try.ntmps16
  go_wp2_with (first | ((with_reducible refine gate_dst (N := 7) rfl ?_); refine Kd.R_lit Kd.string _ 9 ?hg (N := 7) ?hd (xs := ([(⟨#[123]⟩ : ByteArray), (⟨#[125]⟩ : ByteArray), (⟨#[44]⟩ : ByteArray), (⟨#[61]⟩ : ByteArray), (⟨#[33, 61]⟩ : ByteArray), (⟨#[61, 126]⟩ : ByteArray), (⟨#[33, 126]⟩ : ByteArray), (⟨#[124, 61]⟩ : ByteArray), (⟨#[124, 126]⟩ : ByteArray), (⟨#[124]⟩ : ByteArray), (⟨#[61, 61]⟩ : ByteArray), (⟨#[62]⟩ : ByteArray), (⟨#[62, 61]⟩ : ByteArray), (⟨#[60]⟩ : ByteArray), (⟨#[60, 61]⟩ : ByteArray), (⟨#[97, 112, 112]⟩ : ByteArray), (⟨#[108, 118, 108]⟩ : ByteArray), (⟨#[108, 111, 103, 102, 109, 116]⟩ : ByteArray), (⟨#[34, 97, 34]⟩ : ByteArray), (⟨#[34, 120, 42, 34]⟩ : ByteArray), (⟨#[53]⟩ : ByteArray), (⟨#[53, 109]⟩ : ByteArray), (⟨#[50, 75, 66]⟩ : ByteArray), (⟨#[45, 55]⟩ : ByteArray), (⟨#[32]⟩ : ByteArray), (⟨#[10]⟩ : ByteArray), (⟨#[34]⟩ : ByteArray), (⟨#[92]⟩ : ByteArray), (⟨#[59]⟩ : ByteArray), (⟨#[45]⟩ : ByteArray), (⟨#[95, 97, 57]⟩ : ByteArray), (⟨#[48, 120]⟩ : ByteArray)] : List ByteArray)) (inner := [.string (⟨#[123]⟩ : ByteArray), .string (⟨#[125]⟩ : ByteArray), .string (⟨#[44]⟩ : ByteArray), .string (⟨#[61]⟩ : ByteArray), .string (⟨#[33, 61]⟩ : ByteArray), .string (⟨#[61, 126]⟩ : ByteArray), .string (⟨#[33, 126]⟩ : ByteArray), .string (⟨#[124, 61]⟩ : ByteArray), .string (⟨#[124, 126]⟩ : ByteArray), .string (⟨#[124]⟩ : ByteArray), .string (⟨#[61, 61]⟩ : ByteArray), .string (⟨#[62]⟩ : ByteArray), .string (⟨#[62, 61]⟩ : ByteArray), .string (⟨#[60]⟩ : ByteArray), .string (⟨#[60, 61]⟩ : ByteArray), .string (⟨#[97, 112, 112]⟩ : ByteArray), .string (⟨#[108, 118, 108]⟩ : ByteArray), .string (⟨#[108, 111, 103, 102, 109, 116]⟩ : ByteArray), .string (⟨#[34, 97, 34]⟩ : ByteArray), .string (⟨#[34, 120, 42, 34]⟩ : ByteArray), .string (⟨#[53]⟩ : ByteArray), .string (⟨#[53, 109]⟩ : ByteArray), .string (⟨#[50, 75, 66]⟩ : ByteArray), .string (⟨#[45, 55]⟩ : ByteArray), .string (⟨#[32]⟩ : ByteArray), .string (⟨#[10]⟩ : ByteArray), .string (⟨#[34]⟩ : ByteArray), .string (⟨#[92]⟩ : ByteArray), .string (⟨#[59]⟩ : ByteArray), .string (⟨#[45]⟩ : ByteArray), .string (⟨#[95, 97, 57]⟩ : ByteArray), .string (⟨#[48, 120]⟩ : ByteArray)]) (ok := fun _ => True) (okp := fun _ => True) ?hr ?hp (fun _ hk => hk) trivial (Below.refl _ _) (Nat.le_refl _) (by simp) ?_; (case hd => rfl); (case hg => rfl); (case hr => first | (go_simp; done) | (go_simp; rfl)); (case hp => exact (Reps.one (show Kd.M Kd.string _ _ _ (⟨#[123]⟩ : ByteArray) [.string (⟨#[123]⟩ : ByteArray)] from rfl) (Reps.one (show Kd.M Kd.string _ _ _ (⟨#[125]⟩ : ByteArray) [.string (⟨#[125]⟩ : ByteArray)] from rfl) (Reps.one (show Kd.M Kd.string _ _ _ (⟨#[44]⟩ : ByteArray) [.string (⟨#[44]⟩ : ByteArray)] from rfl) (Reps.one (show Kd.M Kd.string _ _ _ (⟨#[61]⟩ : ByteArray) [.string (⟨#[61]⟩ : ByteArray)] from rfl) (Reps.one (show Kd.M Kd.string _ _ _ (⟨#[33, 61]⟩ : ByteArray) [.string (⟨#[33, 61]⟩ : ByteArray)] from rfl) (Reps.one (show Kd.M Kd.string _ _ _ (⟨#[61, 126]⟩ : ByteArray) [.string (⟨#[61, 126]⟩ : ByteArray)] from rfl) (Reps.one (show Kd.M Kd.string _ _ _ (⟨#[33, 126]⟩ : ByteArray) [.string (⟨#[33, 126]⟩ : ByteArray)] from rfl) (Reps.one (show Kd.M Kd.string _ _ _ (⟨#[124, 61]⟩ : ByteArray) [.string (⟨#[124, 61]⟩ : ByteArray)] from rfl) (Reps.one (show Kd.M Kd.string _ _ _ (⟨#[124, 126]⟩ : ByteArray) [.string (⟨#[124, 126]⟩ : ByteArray)] from rfl) (Reps.one (show Kd.M Kd.string _ _ _ (⟨#[124]⟩ : ByteArray) [.string (⟨#[124]⟩ : ByteArray)] from rfl) (Reps.one (show Kd.M Kd.string _ _ _ (⟨#[61, 61]⟩ : ByteArray) [.string (⟨#[61, 61]⟩ : ByteArray)] from rfl) (Reps.one (show Kd.M Kd.string _ _ _ (⟨#[62]⟩ : ByteArray) [.string (⟨#[62]⟩ : ByteArray)] from rfl) (Reps.one (show Kd.M Kd.string _ _ _ (⟨#[62, 61]⟩ : ByteArray) [.string (⟨#[62, 61]⟩ : ByteArray)] from rfl) (Reps.one (show Kd.M Kd.string _ _ _ (⟨#[60]⟩ : ByteArray) [.string (⟨#[60]⟩ : ByteArray)] from rfl) (Reps.one (show Kd.M Kd.string _ _ _ (⟨#[60, 61]⟩ : ByteArray) [.string (⟨#[60, 61]⟩ : ByteArray)] from rfl) (Reps.one (show Kd.M Kd.string _ _ _ (⟨#[97, 112, 112]⟩ : ByteArray) [.string (⟨#[97, 112, 112]⟩ : ByteArray)] from rfl) (Reps.one (show Kd.M Kd.string _ _ _ (⟨#[108, 118, 108]⟩ : ByteArray) [.string (⟨#[108, 118, 108]⟩ : ByteArray)] from rfl) (Reps.one (show Kd.M Kd.string _ _ _ (⟨#[108, 111, 103, 102, 109, 116]⟩ : ByteArray) [.string (⟨#[108, 111, 103, 102, 109, 116]⟩ : ByteArray)] from rfl) (Reps.one (show Kd.M Kd.string _ _ _ (⟨#[34, 97, 34]⟩ : ByteArray) [.string (⟨#[34, 97, 34]⟩ : ByteArray)] from rfl) (Reps.one (show Kd.M Kd.string _ _ _ (⟨#[34, 120, 42, 34]⟩ : ByteArray) [.string (⟨#[34, 120, 42, 34]⟩ : ByteArray)] from rfl) (Reps.one (show Kd.M Kd.string _ _ _ (⟨#[53]⟩ : ByteArray) [.string (⟨#[53]⟩ : ByteArray)] from rfl) (Reps.one (show Kd.M Kd.string _ _ _ (⟨#[53, 109]⟩ : ByteArray) [.string (⟨#[53, 109]⟩ : ByteArray)] from rfl) (Reps.one (show Kd.M Kd.string _ _ _ (⟨#[50, 75, 66]⟩ : ByteArray) [.string (⟨#[50, 75, 66]⟩ : ByteArray)] from rfl) (Reps.one (show Kd.M Kd.string _ _ _ (⟨#[45, 55]⟩ : ByteArray) [.string (⟨#[45, 55]⟩ : ByteArray)] from rfl) (Reps.one (show Kd.M Kd.string _ _ _ (⟨#[32]⟩ : ByteArray) [.string (⟨#[32]⟩ : ByteArray)] from rfl) (Reps.one (show Kd.M Kd.string _ _ _ (⟨#[10]⟩ : ByteArray) [.string (⟨#[10]⟩ : ByteArray)] from rfl) (Reps.one (show Kd.M Kd.string _ _ _ (⟨#[34]⟩ : ByteArray) [.string (⟨#[34]⟩ : ByteArray)] from rfl) (Reps.one (show Kd.M Kd.string _ _ _ (⟨#[92]⟩ : ByteArray) [.string (⟨#[92]⟩ : ByteArray)] from rfl) (Reps.one (show Kd.M Kd.string _ _ _ (⟨#[59]⟩ : ByteArray) [.string (⟨#[59]⟩ : ByteArray)] from rfl) (Reps.one (show Kd.M Kd.string _ _ _ (⟨#[45]⟩ : ByteArray) [.string (⟨#[45]⟩ : ByteArray)] from rfl) (Reps.one (show Kd.M Kd.string _ _ _ (⟨#[95, 97, 57]⟩ : ByteArray) [.string (⟨#[95, 97, 57]⟩ : ByteArray)] from rfl) (Reps.one (show Kd.M Kd.string _ _ _ (⟨#[48, 120]⟩ : ByteArray) [.string (⟨#[48, 120]⟩ : ByteArray)] from rfl) (Reps.none _ _)))))))))))))))))))))))))))))))))); intro v359 w2 ho3 hb hg_ hnew_; clear hg_ hnew_; (first | rw [← Ny358.out] at ho3 | (simp only [Int.reduceToNat] at ho3; rw [← Ny358.out] at ho3)); have n0_ := Aside0.mk (Kd.R_lower ho3 (below_size (by repeat (first | (with_reducible first | exact HB.out | apply below_alloc | apply pw_below_drewN | apply below_drew1) | exact HB.out)))); have n1_ := Aside0.mk (below_step (by repeat (first | (with_reducible first | exact HB.out | apply below_alloc | apply pw_below_drewN | apply below_drew1) | exact HB.out)) hb); clear HB; have HO360 := n0_; have HB := n1_; clear n0_ n1_; clear hb ho3))
  go_loopg [4, 5] k (fun kq v4 v5 w' => ∃ (x4_1 : ByteArray) (x5_1 : Int), v4 = .string x4_1 ∧ v5 = .int .i64 x5_1 ∧ Aside0 (archivistlaw07_words.l0 kq l0 y358 x4_1 x5_1 = some r) ∧ Aside0 (kq ≤ k) ∧ Aside0 (Kd.R Kd.string 9 w' w.heap.size (fun _ => True) v359 y358) ∧ Aside0 (Below w.heap.size w w'))
  case atStart => exact ⟨((⟨#[]⟩ : ByteArray)), (0), (by first | rfl | (simp; done) | (simp [*]; done)), (by first | rfl | (simp; done) | (simp [*]; done)), H', ⟨Nat.le_refl _⟩, ⟨by (with_reducible repeat (first | apply Kd.R_alloc | apply Kd.R_drewN | apply Kd.R_drew)); exact HO360.out⟩, ⟨by repeat (first | (with_reducible first | exact HB.out | apply below_alloc | apply pw_below_drewN | apply below_drew1) | exact HB.out)⟩⟩
  case round =>
    clear H'
    try clear c1
    try clear p2
    obtain ⟨x4_1, x5_1, rfl, rfl, HA, HK1, HO_3, HB⟩ := hrel
    cases gk with
    | zero => exact absurd HA.out (by simp [archivistlaw07_words.l0])
    | succ k1 =>
      have H := HA.out
      clear HA
      simp only [archivistlaw07_words.l0] at H
      have HC4 := Aside0.mk H
      clear H
      go_upto_region 4 with (fail)
      go_cut [15] (fun v15 wc => ∃ (kq : Nat) (x15_3 : Bool), v15 = .bool x15_3 ∧ Aside0 (archivistlaw07_words.j1 kq l0 y358 x4_1 x5_1 x15_3 = some r) ∧ Aside0 (kq ≤ k1) ∧ Aside0 (Kd.R Kd.string 9 wc w.heap.size (fun _ => True) v359 y358) ∧ Aside0 (Below w.heap.size w wc))
      case first =>
        have H := HC4.out
        clear HC4
        by_cases c5 : x5_1 < (l0.length : Int)
        · rw [if_pos c5] at H
          have c5b0 : decide (x5_1 < (l0.length : Int)) = true := decide_eq_true c5
          clear c5
          (first | rw [c5b0] | (simp only [i64_w, i32_w]; rw [c5b0]) | skip)
          have H' := Aside0.mk H
          clear H
          go_wp2
          go_meet
          case rel => exact ⟨_, (decide (x5_1 < 40)), (by first | rfl | (simp; done) | (simp [*]; done)), H', ⟨by have := HK1.out; first | omega | exact Nat.le_refl _⟩, ⟨by (with_reducible repeat (first | apply Kd.R_alloc | apply Kd.R_drewN | apply Kd.R_drew)); exact HO_3.out⟩, ⟨by repeat (first | (with_reducible first | exact HB.out | apply below_alloc | apply pw_below_drewN | apply below_drew1) | exact HB.out)⟩⟩
        · rw [if_neg c5] at H
          have c5b0 : decide (x5_1 < (l0.length : Int)) = false := decide_eq_false c5
          clear c5
          (first | rw [c5b0] | (simp only [i64_w, i32_w]; rw [c5b0]) | skip)
          have H' := Aside0.mk H
          clear H
          go_wp2
          go_meet
          case rel => exact ⟨_, (false), (by first | rfl | (simp; done) | (simp [*]; done)), H', ⟨by have := HK1.out; first | omega | exact Nat.le_refl _⟩, ⟨by (with_reducible repeat (first | apply Kd.R_alloc | apply Kd.R_drewN | apply Kd.R_drew)); exact HO_3.out⟩, ⟨by repeat (first | (with_reducible first | exact HB.out | apply below_alloc | apply pw_below_drewN | apply below_drew1) | exact HB.out)⟩⟩
      case rest =>
        clear HC4
        try clear c1
        try clear p2
        try clear c5
        try clear c5b0
        try clear p2
        obtain ⟨kq, x15_3, rfl, HA, HJ3, HO_3, HB⟩ := hcut
        cases kq with
        | zero => exact absurd HA.out (by simp [archivistlaw07_words.j1])
        | succ kj3 =>
          have H := HA.out
          clear HA
          simp only [archivistlaw07_words.j1] at H
          by_cases c6 : x15_3 = true
          · subst c6
            have H1 : (if 0 ≤ x5_1 then (if x5_1 < (l0.length : Int) then (if (rd l0 x5_1) < 220 then (if 0 ≤ (Int.tmod (Int.tmod (rd l0 x5_1) 26) 32) then (if (Int.tmod (Int.tmod (rd l0 x5_1) 26) 32) < (y358.length : Int) then (if x4_1.size + (rdOf ByteArray.empty y358 (Int.tmod (Int.tmod (rd l0 x5_1) 26) 32)).size ≤ 9223372036854775807 then (archivistlaw07_words.l0 kj3 l0 y358 (x4_1 ++ (rdOf ByteArray.empty y358 (Int.tmod (Int.tmod (rd l0 x5_1) 26) 32))) (wrap64 (x5_1 + 1))) else (none)) else (none)) else (none)) else (if 0 ≤ (Int.tmod (rd l0 x5_1) 32) then (if (Int.tmod (rd l0 x5_1) 32) < (y358.length : Int) then (if x4_1.size + (rdOf ByteArray.empty y358 (Int.tmod (rd l0 x5_1) 32)).size ≤ 9223372036854775807 then (archivistlaw07_words.l0 kj3 l0 y358 (x4_1 ++ (rdOf ByteArray.empty y358 (Int.tmod (rd l0 x5_1) 32))) (wrap64 (x5_1 + 1))) else (none)) else (none)) else (none))) else (none)) else (none)) = some r := by rw [if_pos rfl] at H; exact H
            clear H
            have H := H1
            clear H1
            by_cases c7 : 0 ≤ x5_1
            · rw [if_pos c7] at H
              have c7b0 : decide (0 ≤ x5_1) = true := decide_eq_true c7
              clear c7
              by_cases c8 : x5_1 < (l0.length : Int)
              · rw [if_pos c8] at H
                have c8b0 : decide (x5_1 < (l0.length : Int)) = true := decide_eq_true c8
                clear c8
                by_cases c9 : (rd l0 x5_1) < 220
                · rw [if_pos c9] at H
                  have c9b0 : decide ((rd l0 x5_1) < 220) = true := decide_eq_true c9
                  clear c9
                  obtain ⟨ji10, hji10⟩ : ∃ j_ : Int, (Int.tmod (Int.tmod (rd l0 x5_1) 26) 32) = j_ := ⟨_, rfl⟩
                  replace H : (if 0 ≤ (ji10) then (if (ji10) < (y358.length : Int) then (if x4_1.size + (rdOf ByteArray.empty y358 (ji10)).size ≤ 9223372036854775807 then (archivistlaw07_words.l0 kj3 l0 y358 (x4_1 ++ (rdOf ByteArray.empty y358 (ji10))) (wrap64 (x5_1 + 1))) else (none)) else (none)) else (none)) = some r := by first | (rw [hji10] at H; exact H) | (simp only [hji10] at H ⊢; exact H)
                  by_cases c11 : 0 ≤ (ji10)
                  · rw [if_pos c11] at H
                    have c11b0 : decide (0 ≤ (ji10)) = true := decide_eq_true c11
                    clear c11
                    by_cases c12 : (ji10) < (y358.length : Int)
                    · rw [if_pos c12] at H
                      have c12b0 : decide ((ji10) < (y358.length : Int)) = true := decide_eq_true c12
                      clear c12
                      by_cases c13 : x4_1.size + (rdOf ByteArray.empty y358 (ji10)).size ≤ 9223372036854775807
                      · rw [if_pos c13] at H
                        have c13b0 := eq_true c13
                        have c13b1 : decide (x4_1.size + (rdOf ByteArray.empty y358 (ji10)).size ≤ 9223372036854775807) = true := decide_eq_true c13
                        try have c13b2 : (9223372036854775807 < x4_1.size + (rdOf ByteArray.empty y358 (ji10)).size) = False := eq_false (Nat.not_lt.2 c13)
                        have H' := Aside0.mk H
                        clear H
                        have p361 : 0 ≤ (x5_1 : Int) := of_decide_eq_true (by first | (with_reducible assumption) | assumption)
                        have q361 : x5_1 < (l0.length : Int) := of_decide_eq_true (by first | (with_reducible assumption) | assumption)
                        obtain ⟨ad361, e361, hx361_0⟩ := Kd.at_int HR0.out x5_1 p361 q361
                        cases e361
                        replace hx361_0 := (HB.out.cell (World.block_lt_of_cell? w _ hx361_0)).trans hx361_0
                        replace p361 := eq_true p361
                        replace q361 := eq_true q361
                        obtain ⟨Ao14, co14, eo14⟩ := Kd.R_slice HO_3.out
                        subst eo14
                        have p362 : 0 ≤ ((ji10) : Int) := of_decide_eq_true (by first | (with_reducible assumption) | assumption)
                        have q362 : (ji10) < (y358.length : Int) := of_decide_eq_true (by first | (with_reducible assumption) | assumption)
                        obtain ⟨ad362, e362, hx362_0⟩ := Kd.at_string (Kd.R_reads' HO_3.out).2.2 (ji10) p362 q362
                        cases e362
                        replace p362 := eq_true p362
                        replace q362 := eq_true q362
                        go_wp2
                        go_roundg kj3
                        case measure => have := HK1.out; have := HJ3.out; omega
                        case rel => exact ⟨(x4_1 ++ (rdOf ByteArray.empty y358 (ji10))), (wrap64 (x5_1 + 1)), (by first | rfl | (simp; done) | (simp only [← hji10] <;> (first | rfl | simp)) | (simp [*]; done)), (by first | rfl | (simp; done) | (simp [*]; done)), H', ⟨by have := HK1.out; have := HJ3.out; omega⟩, ⟨by (with_reducible repeat (first | apply Kd.R_alloc | apply Kd.R_drewN | apply Kd.R_drew)); exact HO_3.out⟩, ⟨by repeat (first | (with_reducible first | exact HB.out | apply below_alloc | apply pw_below_drewN | apply below_drew1) | exact HB.out)⟩⟩
                      · rw [if_neg c13] at H
                        exact absurd H (by simp)
                    · rw [if_neg c12] at H
                      exact absurd H (by simp)
                  · rw [if_neg c11] at H
                    exact absurd H (by simp)
                · rw [if_neg c9] at H
                  have c9b0 : decide ((rd l0 x5_1) < 220) = false := decide_eq_false c9
                  clear c9
                  obtain ⟨ji15, hji15⟩ : ∃ j_ : Int, (Int.tmod (rd l0 x5_1) 32) = j_ := ⟨_, rfl⟩
                  replace H : (if 0 ≤ (ji15) then (if (ji15) < (y358.length : Int) then (if x4_1.size + (rdOf ByteArray.empty y358 (ji15)).size ≤ 9223372036854775807 then (archivistlaw07_words.l0 kj3 l0 y358 (x4_1 ++ (rdOf ByteArray.empty y358 (ji15))) (wrap64 (x5_1 + 1))) else (none)) else (none)) else (none)) = some r := by first | (rw [hji15] at H; exact H) | (simp only [hji15] at H ⊢; exact H)
                  by_cases c16 : 0 ≤ (ji15)
                  · rw [if_pos c16] at H
                    have c16b0 : decide (0 ≤ (ji15)) = true := decide_eq_true c16
                    clear c16
                    by_cases c17 : (ji15) < (y358.length : Int)
                    · rw [if_pos c17] at H
                      have c17b0 : decide ((ji15) < (y358.length : Int)) = true := decide_eq_true c17
                      clear c17
                      by_cases c18 : x4_1.size + (rdOf ByteArray.empty y358 (ji15)).size ≤ 9223372036854775807
                      · rw [if_pos c18] at H
                        have c18b0 := eq_true c18
                        have c18b1 : decide (x4_1.size + (rdOf ByteArray.empty y358 (ji15)).size ≤ 9223372036854775807) = true := decide_eq_true c18
                        try have c18b2 : (9223372036854775807 < x4_1.size + (rdOf ByteArray.empty y358 (ji15)).size) = False := eq_false (Nat.not_lt.2 c18)
                        have H' := Aside0.mk H
                        clear H
                        have p361 : 0 ≤ (x5_1 : Int) := of_decide_eq_true (by first | (with_reducible assumption) | assumption)
                        have q361 : x5_1 < (l0.length : Int) := of_decide_eq_true (by first | (with_reducible assumption) | assumption)
                        obtain ⟨ad361, e361, hx361_0⟩ := Kd.at_int HR0.out x5_1 p361 q361
                        cases e361
                        replace hx361_0 := (HB.out.cell (World.block_lt_of_cell? w _ hx361_0)).trans hx361_0
                        replace p361 := eq_true p361
                        replace q361 := eq_true q361
                        obtain ⟨Ao19, co19, eo19⟩ := Kd.R_slice HO_3.out
                        subst eo19
                        have p363 : 0 ≤ ((ji15) : Int) := of_decide_eq_true (by first | (with_reducible assumption) | assumption)
                        have q363 : (ji15) < (y358.length : Int) := of_decide_eq_true (by first | (with_reducible assumption) | assumption)
                        obtain ⟨ad363, e363, hx363_0⟩ := Kd.at_string (Kd.R_reads' HO_3.out).2.2 (ji15) p363 q363
                        cases e363
                        replace p363 := eq_true p363
                        replace q363 := eq_true q363
                        go_wp2
                        go_roundg kj3
                        case measure => have := HK1.out; have := HJ3.out; omega
                        case rel => exact ⟨(x4_1 ++ (rdOf ByteArray.empty y358 (ji15))), (wrap64 (x5_1 + 1)), (by first | rfl | (simp; done) | (simp only [← hji15] <;> (first | rfl | simp)) | (simp [*]; done)), (by first | rfl | (simp; done) | (simp [*]; done)), H', ⟨by have := HK1.out; have := HJ3.out; omega⟩, ⟨by (with_reducible repeat (first | apply Kd.R_alloc | apply Kd.R_drewN | apply Kd.R_drew)); exact HO_3.out⟩, ⟨by repeat (first | (with_reducible first | exact HB.out | apply below_alloc | apply pw_below_drewN | apply below_drew1) | exact HB.out)⟩⟩
                      · rw [if_neg c18] at H
                        exact absurd H (by simp)
                    · rw [if_neg c17] at H
                      exact absurd H (by simp)
                  · rw [if_neg c16] at H
                    exact absurd H (by simp)
              · rw [if_neg c8] at H
                exact absurd H (by simp)
            · rw [if_neg c7] at H
              exact absurd H (by simp)
          · replace c6 := Bool.eq_false_iff.mpr c6
            subst c6
            have H1 : (some x4_1) = some r := by rw [if_neg (show ¬ (false = true) by decide)] at H; exact H
            clear H
            have H := H1
            clear H1
            obtain rfl := Option.some.inj H
            go_wp2
            go_ret
            exact ⟨by first | rfl | (simp [errW_none, errW_some] <;> rfl) | (simp [*, errW_none, errW_some] <;> rfl), by repeat (first | (with_reducible first | exact HB.out | apply below_alloc | apply pw_below_drewN | apply below_drew1) | exact HB.out)⟩

/-! ### archivistref07_Ops: function 20 -/
def archivistref07_Ops.f  : Option (List ByteArray) := some (([(⟨#[61, 126]⟩ : ByteArray), (⟨#[33, 126]⟩ : ByteArray), (⟨#[33, 61]⟩ : ByteArray), (⟨#[61, 61]⟩ : ByteArray), (⟨#[62, 61]⟩ : ByteArray), (⟨#[60, 61]⟩ : ByteArray), (⟨#[124, 61]⟩ : ByteArray), (⟨#[124, 126]⟩ : ByteArray), (⟨#[123]⟩ : ByteArray), (⟨#[125]⟩ : ByteArray), (⟨#[44]⟩ : ByteArray), (⟨#[61]⟩ : ByteArray), (⟨#[62]⟩ : ByteArray), (⟨#[60]⟩ : ByteArray), (⟨#[124]⟩ : ByteArray)] : List ByteArray))
set_option maxHeartbeats 8000000 in
set_option maxRecDepth 100000 in
theorem archivistref07_Ops.calls  (r : List ByteArray) (w : World) (h : archivistref07_Ops.f  = some r) :
    Calls Try.prog 20 #[] w fun e w' => ∃ v0_ : Value, e = .returned (v0_) ∧ Kd.R Kd.string 9 w' w.heap.size (fun _ => True) v0_ r ∧ Below w.heap.size w w' := by
  have HB := Aside0.mk (Below.refl w.heap.size w)
  have H : (some (([(⟨#[61, 126]⟩ : ByteArray), (⟨#[33, 126]⟩ : ByteArray), (⟨#[33, 61]⟩ : ByteArray), (⟨#[61, 61]⟩ : ByteArray), (⟨#[62, 61]⟩ : ByteArray), (⟨#[60, 61]⟩ : ByteArray), (⟨#[124, 61]⟩ : ByteArray), (⟨#[124, 126]⟩ : ByteArray), (⟨#[123]⟩ : ByteArray), (⟨#[125]⟩ : ByteArray), (⟨#[44]⟩ : ByteArray), (⟨#[61]⟩ : ByteArray), (⟨#[62]⟩ : ByteArray), (⟨#[60]⟩ : ByteArray), (⟨#[124]⟩ : ByteArray)] : List ByteArray))) = some r := h
  clear h
  obtain ⟨y364, hy364⟩ : ∃ y_ : List ByteArray, y_ = (([(⟨#[61, 126]⟩ : ByteArray), (⟨#[33, 126]⟩ : ByteArray), (⟨#[33, 61]⟩ : ByteArray), (⟨#[61, 61]⟩ : ByteArray), (⟨#[62, 61]⟩ : ByteArray), (⟨#[60, 61]⟩ : ByteArray), (⟨#[124, 61]⟩ : ByteArray), (⟨#[124, 126]⟩ : ByteArray), (⟨#[123]⟩ : ByteArray), (⟨#[125]⟩ : ByteArray), (⟨#[44]⟩ : ByteArray), (⟨#[61]⟩ : ByteArray), (⟨#[62]⟩ : ByteArray), (⟨#[60]⟩ : ByteArray), (⟨#[124]⟩ : ByteArray)] : List ByteArray)) := ⟨_, rfl⟩
  replace H : (some y364) = some r := by first | (rw [hy364]; with_reducible exact H) | (have H2_ := (Option.bind_some _ _).symm.trans H; rw [hy364]; with_reducible exact H2_) | (have H2_ := (Option.bind_some _ _).symm.trans H; with_reducible exact H2_) | with_reducible exact H | (rw [hy364]; exact H) | exact H
  have Ny364 := Aside0.mk hy364
  clear hy364
  obtain rfl := Option.some.inj H
  go_enter Try.func20, Try.ntmps20
  go_wp2_with (first | ((with_reducible refine gate_dst (N := 1) rfl ?_); refine Kd.R_lit Kd.string _ 9 ?hg (N := 1) ?hd (xs := ([(⟨#[61, 126]⟩ : ByteArray), (⟨#[33, 126]⟩ : ByteArray), (⟨#[33, 61]⟩ : ByteArray), (⟨#[61, 61]⟩ : ByteArray), (⟨#[62, 61]⟩ : ByteArray), (⟨#[60, 61]⟩ : ByteArray), (⟨#[124, 61]⟩ : ByteArray), (⟨#[124, 126]⟩ : ByteArray), (⟨#[123]⟩ : ByteArray), (⟨#[125]⟩ : ByteArray), (⟨#[44]⟩ : ByteArray), (⟨#[61]⟩ : ByteArray), (⟨#[62]⟩ : ByteArray), (⟨#[60]⟩ : ByteArray), (⟨#[124]⟩ : ByteArray)] : List ByteArray)) (inner := [.string (⟨#[61, 126]⟩ : ByteArray), .string (⟨#[33, 126]⟩ : ByteArray), .string (⟨#[33, 61]⟩ : ByteArray), .string (⟨#[61, 61]⟩ : ByteArray), .string (⟨#[62, 61]⟩ : ByteArray), .string (⟨#[60, 61]⟩ : ByteArray), .string (⟨#[124, 61]⟩ : ByteArray), .string (⟨#[124, 126]⟩ : ByteArray), .string (⟨#[123]⟩ : ByteArray), .string (⟨#[125]⟩ : ByteArray), .string (⟨#[44]⟩ : ByteArray), .string (⟨#[61]⟩ : ByteArray), .string (⟨#[62]⟩ : ByteArray), .string (⟨#[60]⟩ : ByteArray), .string (⟨#[124]⟩ : ByteArray)]) (ok := fun _ => True) (okp := fun _ => True) ?hr ?hp (fun _ hk => hk) trivial (Below.refl _ _) (Nat.le_refl _) (by simp) ?_; (case hd => rfl); (case hg => rfl); (case hr => first | (go_simp; done) | (go_simp; rfl)); (case hp => exact (Reps.one (show Kd.M Kd.string _ _ _ (⟨#[61, 126]⟩ : ByteArray) [.string (⟨#[61, 126]⟩ : ByteArray)] from rfl) (Reps.one (show Kd.M Kd.string _ _ _ (⟨#[33, 126]⟩ : ByteArray) [.string (⟨#[33, 126]⟩ : ByteArray)] from rfl) (Reps.one (show Kd.M Kd.string _ _ _ (⟨#[33, 61]⟩ : ByteArray) [.string (⟨#[33, 61]⟩ : ByteArray)] from rfl) (Reps.one (show Kd.M Kd.string _ _ _ (⟨#[61, 61]⟩ : ByteArray) [.string (⟨#[61, 61]⟩ : ByteArray)] from rfl) (Reps.one (show Kd.M Kd.string _ _ _ (⟨#[62, 61]⟩ : ByteArray) [.string (⟨#[62, 61]⟩ : ByteArray)] from rfl) (Reps.one (show Kd.M Kd.string _ _ _ (⟨#[60, 61]⟩ : ByteArray) [.string (⟨#[60, 61]⟩ : ByteArray)] from rfl) (Reps.one (show Kd.M Kd.string _ _ _ (⟨#[124, 61]⟩ : ByteArray) [.string (⟨#[124, 61]⟩ : ByteArray)] from rfl) (Reps.one (show Kd.M Kd.string _ _ _ (⟨#[124, 126]⟩ : ByteArray) [.string (⟨#[124, 126]⟩ : ByteArray)] from rfl) (Reps.one (show Kd.M Kd.string _ _ _ (⟨#[123]⟩ : ByteArray) [.string (⟨#[123]⟩ : ByteArray)] from rfl) (Reps.one (show Kd.M Kd.string _ _ _ (⟨#[125]⟩ : ByteArray) [.string (⟨#[125]⟩ : ByteArray)] from rfl) (Reps.one (show Kd.M Kd.string _ _ _ (⟨#[44]⟩ : ByteArray) [.string (⟨#[44]⟩ : ByteArray)] from rfl) (Reps.one (show Kd.M Kd.string _ _ _ (⟨#[61]⟩ : ByteArray) [.string (⟨#[61]⟩ : ByteArray)] from rfl) (Reps.one (show Kd.M Kd.string _ _ _ (⟨#[62]⟩ : ByteArray) [.string (⟨#[62]⟩ : ByteArray)] from rfl) (Reps.one (show Kd.M Kd.string _ _ _ (⟨#[60]⟩ : ByteArray) [.string (⟨#[60]⟩ : ByteArray)] from rfl) (Reps.one (show Kd.M Kd.string _ _ _ (⟨#[124]⟩ : ByteArray) [.string (⟨#[124]⟩ : ByteArray)] from rfl) (Reps.none _ _))))))))))))))))); intro v365 w1 ho2 hb hg_ hnew_; clear hg_ hnew_; (first | rw [← Ny364.out] at ho2 | (simp only [Int.reduceToNat] at ho2; rw [← Ny364.out] at ho2)); have n0_ := Aside0.mk (Kd.R_lower ho2 (below_size (by repeat (first | (with_reducible first | exact HB.out | apply below_alloc | apply pw_below_drewN | apply below_drew1) | exact HB.out)))); have n1_ := Aside0.mk (below_step (by repeat (first | (with_reducible first | exact HB.out | apply below_alloc | apply pw_below_drewN | apply below_drew1) | exact HB.out)) hb); clear HB; have HO366 := n0_; have HB := n1_; clear n0_ n1_; clear hb ho2))
  go_ret
  exact ⟨_, by first | rfl | (simp [errW_none, errW_some] <;> rfl) | (simp [*, errW_none, errW_some] <;> rfl), by (with_reducible repeat (first | apply Kd.R_alloc | apply Kd.R_drewN | apply Kd.R_drew)); exact HO366.out, by repeat (first | (with_reducible first | exact HB.out | apply below_alloc | apply pw_below_drewN | apply below_drew1) | exact HB.out)⟩

/-! ### archivistref07_op: function 48 -/
def archivistref07_op.l0 : Nat → ByteArray → List ByteArray → Int → Option (ByteArray)
  | 0, _, _, _ => none
  | k + 1, x0, x3, x4 => if x4 < (x3.length : Int) then (if 0 ≤ x4 then (if (x0.size : Int) ≥ ((rdOf ByteArray.empty x3 x4).size : Int) then (if 0 ≤ ((rdOf ByteArray.empty x3 x4).size : Int) then (if ((rdOf ByteArray.empty x3 x4).size : Int) ≤ (x0.size : Int) then (if (x0.extract 0 (rdOf ByteArray.empty x3 x4).size).toList = (rdOf ByteArray.empty x3 x4).toList then (some (rdOf ByteArray.empty x3 x4)) else (archivistref07_op.l0 k x0 x3 (wrap64 (x4 + 1)))) else (none)) else (none)) else (archivistref07_op.l0 k x0 x3 (wrap64 (x4 + 1)))) else (none)) else (some (⟨#[]⟩ : ByteArray))
def archivistref07_op.f (k : Nat) (a0 : ByteArray) : Option (ByteArray) := (archivistref07_Ops.f).bind fun t367 => (archivistref07_op.l0 k a0 t367 0)
theorem archivistref07_op.mono_l : ∀ k, (∀ y0 y1 y2, LeO (archivistref07_op.l0 k y0 y1 y2) (archivistref07_op.l0 (k + 1) y0 y1 y2))
  | 0 => fun _ _ _ r h => by simp [archivistref07_op.l0] at h
  | k + 1 => by
    have ih0 := archivistref07_op.mono_l k
    · intro y0 y1 y2
      unfold archivistref07_op.l0
      repeat' first
      | (with_reducible exact ih0 _ _ _)
      | (with_reducible exact LeO.refl _)
      | (with_reducible exact LeO.none _)
      | (with_reducible refine LeO.ite ?_ ?_)
      | (with_reducible refine LeO.bind ?_ (fun _ => ?_))
      | exact ih0 _ _ _
      | exact LeO.none _
      | refine LeO.ite ?_ ?_
      | refine LeO.bind ?_ (fun _ => ?_)
theorem archivistref07_op.mono : ∀ a0 k, LeO (archivistref07_op.f k a0) (archivistref07_op.f (k + 1) a0) := by
  intro a0 k
  have ih0 := archivistref07_op.mono_l k
  unfold archivistref07_op.f
  repeat' first
      | (with_reducible exact ih0 _ _ _)
      | (with_reducible exact LeO.refl _)
      | (with_reducible exact LeO.none _)
      | (with_reducible refine LeO.ite ?_ ?_)
      | (with_reducible refine LeO.bind ?_ (fun _ => ?_))
      | exact ih0 _ _ _
      | exact LeO.none _
      | refine LeO.ite ?_ ?_
      | refine LeO.bind ?_ (fun _ => ?_)
set_option maxHeartbeats 8000000 in
set_option maxRecDepth 100000 in
theorem archivistref07_op.calls (k : Nat) (a0 : ByteArray) (r : ByteArray) (w : World) (h : archivistref07_op.f k a0 = some r) :
    Calls Try.prog 48 #[.string a0] w fun e w' => e = .returned (.string r) ∧ Below w.heap.size w w' := by
  have HB := Aside0.mk (Below.refl w.heap.size w)
  have H : ((archivistref07_Ops.f).bind fun t367 => (archivistref07_op.l0 k a0 t367 0)) = some r := h
  clear h
  replace H := Option.bind_eq_some_iff.mp H
  obtain ⟨t367, A20, H⟩ := H
  replace H : (archivistref07_op.l0 k a0 t367 0) = some r := H
  have A2 := Aside0.mk A20
  clear A20
  have H' := Aside0.mk H
  clear H
  go_enter Try.func48, Try.ntmps48
  go_wp2_with (first | (go_at_call 20; (with_reducible refine (archivistref07_Ops.calls  t367 _ A2.out).mono ?_); rintro e w3 ⟨v368, rfl, ho0, hb⟩; have n0_ := Aside0.mk (Kd.R_lower ho0 (below_size (by repeat (first | (with_reducible first | exact HB.out | apply below_alloc | apply pw_below_drewN | apply below_drew1) | exact HB.out)))); have n1_ := Aside0.mk (below_step (by repeat (first | (with_reducible first | exact HB.out | apply below_alloc | apply pw_below_drewN | apply below_drew1) | exact HB.out)) hb); clear HB; have HO369 := n0_; have HB := n1_; clear n0_ n1_; (try clear hb); (try clear hb2); (try clear hk); (try clear hi); (try clear ho0)))
  repeat (go_quiet (first | (go_at_call 20; (with_reducible refine (archivistref07_Ops.calls  t367 _ A2.out).mono ?_); rintro e w3 ⟨v368, rfl, ho0, hb⟩; have n0_ := Aside0.mk (Kd.R_lower ho0 (below_size (by repeat (first | (with_reducible first | exact HB.out | apply below_alloc | apply pw_below_drewN | apply below_drew1) | exact HB.out)))); have n1_ := Aside0.mk (below_step (by repeat (first | (with_reducible first | exact HB.out | apply below_alloc | apply pw_below_drewN | apply below_drew1) | exact HB.out)) hb); clear HB; have HO369 := n0_; have HB := n1_; clear n0_ n1_; (try clear hb); (try clear hb2); (try clear hk); (try clear hi); (try clear ho0))); try go_wp2_with (first | (go_at_call 20; (with_reducible refine (archivistref07_Ops.calls  t367 _ A2.out).mono ?_); rintro e w3 ⟨v368, rfl, ho0, hb⟩; have n0_ := Aside0.mk (Kd.R_lower ho0 (below_size (by repeat (first | (with_reducible first | exact HB.out | apply below_alloc | apply pw_below_drewN | apply below_drew1) | exact HB.out)))); have n1_ := Aside0.mk (below_step (by repeat (first | (with_reducible first | exact HB.out | apply below_alloc | apply pw_below_drewN | apply below_drew1) | exact HB.out)) hb); clear HB; have HO369 := n0_; have HB := n1_; clear n0_ n1_; (try clear hb); (try clear hb2); (try clear hk); (try clear hi); (try clear ho0))))
  go_loopg [4] k (fun kq v4 w' => ∃ (x4_1 : Int), v4 = .int .i64 x4_1 ∧ Aside0 (archivistref07_op.l0 kq a0 t367 x4_1 = some r) ∧ Aside0 (kq ≤ k) ∧ Aside0 (Kd.R Kd.string 9 w' w.heap.size (fun _ => True) v368 t367) ∧ Aside0 (Below w.heap.size w w'))
  case atStart => exact ⟨(0), (by first | rfl | (simp; done) | (simp [*]; done)), H', ⟨Nat.le_refl _⟩, ⟨by (with_reducible repeat (first | apply Kd.R_alloc | apply Kd.R_drewN | apply Kd.R_drew)); exact HO369.out⟩, ⟨by repeat (first | (with_reducible first | exact HB.out | apply below_alloc | apply pw_below_drewN | apply below_drew1) | exact HB.out)⟩⟩
  case round =>
    clear H'
    try clear p2
    obtain ⟨x4_1, rfl, HA, HK1, HO_3, HB⟩ := hrel
    cases gk with
    | zero => exact absurd HA.out (by simp [archivistref07_op.l0])
    | succ k1 =>
      have H := HA.out
      clear HA
      simp only [archivistref07_op.l0] at H
      by_cases c4 : x4_1 < (t367.length : Int)
      · rw [if_pos c4] at H
        have c4b0 : decide (x4_1 < (t367.length : Int)) = true := decide_eq_true c4
        clear c4
        by_cases c5 : 0 ≤ x4_1
        · rw [if_pos c5] at H
          have c5b0 : decide (0 ≤ x4_1) = true := decide_eq_true c5
          clear c5
          by_cases c6 : (a0.size : Int) ≥ ((rdOf ByteArray.empty t367 x4_1).size : Int)
          · rw [if_pos c6] at H
            have c6b0 : decide (((rdOf ByteArray.empty t367 x4_1).size : Int) ≤ (a0.size : Int)) = true := decide_eq_true c6
            have c6b1 : decide ((rdOf ByteArray.empty t367 x4_1).size ≤ a0.size) = true := decide_eq_true (Int.ofNat_le.mp c6)
            clear c6
            by_cases c7 : 0 ≤ ((rdOf ByteArray.empty t367 x4_1).size : Int)
            · rw [if_pos c7] at H
              have c7b0 := eq_true c7
              have c7b1 : decide (0 ≤ ((rdOf ByteArray.empty t367 x4_1).size : Int)) = true := decide_eq_true c7
              clear c7
              by_cases c8 : ((rdOf ByteArray.empty t367 x4_1).size : Int) ≤ (a0.size : Int)
              · rw [if_pos c8] at H
                have c8b0 := eq_true c8
                have c8b1 : decide (((rdOf ByteArray.empty t367 x4_1).size : Int) ≤ (a0.size : Int)) = true := decide_eq_true c8
                clear c8
                by_cases c9 : (a0.extract 0 (rdOf ByteArray.empty t367 x4_1).size).toList = (rdOf ByteArray.empty t367 x4_1).toList
                · rw [if_pos c9] at H
                  have c9b0 : ((a0.extract 0 (rdOf ByteArray.empty t367 x4_1).size).toList == (rdOf ByteArray.empty t367 x4_1).toList) = true := beq_iff_eq.mpr c9
                  have c9b1 : ((a0.extract 0 (rdOf ByteArray.empty t367 x4_1).size).toList != (rdOf ByteArray.empty t367 x4_1).toList) = false := bne_eq_false_iff_eq.mpr c9
                  clear c9
                  obtain rfl := Option.some.inj H
                  obtain ⟨Ao10, co10, eo10⟩ := Kd.R_slice HO_3.out
                  subst eo10
                  have p370 : 0 ≤ (x4_1 : Int) := of_decide_eq_true (by first | (with_reducible assumption) | assumption)
                  have q370 : x4_1 < (t367.length : Int) := of_decide_eq_true (by first | (with_reducible assumption) | assumption)
                  obtain ⟨ad370, e370, hx370_0⟩ := Kd.at_string (Kd.R_reads' HO_3.out).2.2 x4_1 p370 q370
                  cases e370
                  replace p370 := eq_true p370
                  replace q370 := eq_true q370
                  have p371 : 0 ≤ (x4_1 : Int) := of_decide_eq_true (by first | (with_reducible assumption) | assumption)
                  have q371 : x4_1 < (t367.length : Int) := of_decide_eq_true (by first | (with_reducible assumption) | assumption)
                  obtain ⟨ad371, e371, hx371_0⟩ := Kd.at_string (Kd.R_reads' HO_3.out).2.2 x4_1 p371 q371
                  obtain rfl : ad370 = ad371 := (by injection e371)
                  replace p371 := eq_true p371
                  replace q371 := eq_true q371
                  have p372 : 0 ≤ (x4_1 : Int) := of_decide_eq_true (by first | (with_reducible assumption) | assumption)
                  have q372 : x4_1 < (t367.length : Int) := of_decide_eq_true (by first | (with_reducible assumption) | assumption)
                  obtain ⟨ad372, e372, hx372_0⟩ := Kd.at_string (Kd.R_reads' HO_3.out).2.2 x4_1 p372 q372
                  obtain rfl : ad370 = ad372 := (by injection e372)
                  replace p372 := eq_true p372
                  replace q372 := eq_true q372
                  have p373 : 0 ≤ (x4_1 : Int) := of_decide_eq_true (by first | (with_reducible assumption) | assumption)
                  have q373 : x4_1 < (t367.length : Int) := of_decide_eq_true (by first | (with_reducible assumption) | assumption)
                  obtain ⟨ad373, e373, hx373_0⟩ := Kd.at_string (Kd.R_reads' HO_3.out).2.2 x4_1 p373 q373
                  obtain rfl : ad370 = ad373 := (by injection e373)
                  replace p373 := eq_true p373
                  replace q373 := eq_true q373
                  go_wp2
                  repeat (go_quiet (fail); try go_wp2)
                  go_ret
                  exact ⟨by first | rfl | (simp [errW_none, errW_some] <;> rfl) | (simp [*, errW_none, errW_some] <;> rfl), by repeat (first | (with_reducible first | exact HB.out | apply below_alloc | apply pw_below_drewN | apply below_drew1) | exact HB.out)⟩
                · rw [if_neg c9] at H
                  have c9b0 : ((a0.extract 0 (rdOf ByteArray.empty t367 x4_1).size).toList == (rdOf ByteArray.empty t367 x4_1).toList) = false := beq_eq_false_iff_ne.mpr c9
                  have c9b1 : ((a0.extract 0 (rdOf ByteArray.empty t367 x4_1).size).toList != (rdOf ByteArray.empty t367 x4_1).toList) = true := bne_iff_ne.mpr c9
                  have H' := Aside0.mk H
                  clear H
                  obtain ⟨Ao11, co11, eo11⟩ := Kd.R_slice HO_3.out
                  subst eo11
                  have p370 : 0 ≤ (x4_1 : Int) := of_decide_eq_true (by first | (with_reducible assumption) | assumption)
                  have q370 : x4_1 < (t367.length : Int) := of_decide_eq_true (by first | (with_reducible assumption) | assumption)
                  obtain ⟨ad370, e370, hx370_0⟩ := Kd.at_string (Kd.R_reads' HO_3.out).2.2 x4_1 p370 q370
                  cases e370
                  replace p370 := eq_true p370
                  replace q370 := eq_true q370
                  have p371 : 0 ≤ (x4_1 : Int) := of_decide_eq_true (by first | (with_reducible assumption) | assumption)
                  have q371 : x4_1 < (t367.length : Int) := of_decide_eq_true (by first | (with_reducible assumption) | assumption)
                  obtain ⟨ad371, e371, hx371_0⟩ := Kd.at_string (Kd.R_reads' HO_3.out).2.2 x4_1 p371 q371
                  obtain rfl : ad370 = ad371 := (by injection e371)
                  replace p371 := eq_true p371
                  replace q371 := eq_true q371
                  have p372 : 0 ≤ (x4_1 : Int) := of_decide_eq_true (by first | (with_reducible assumption) | assumption)
                  have q372 : x4_1 < (t367.length : Int) := of_decide_eq_true (by first | (with_reducible assumption) | assumption)
                  obtain ⟨ad372, e372, hx372_0⟩ := Kd.at_string (Kd.R_reads' HO_3.out).2.2 x4_1 p372 q372
                  obtain rfl : ad370 = ad372 := (by injection e372)
                  replace p372 := eq_true p372
                  replace q372 := eq_true q372
                  go_wp2
                  repeat (go_quiet (fail); try go_wp2)
                  go_roundg k1
                  case measure => have := HK1.out; omega
                  case rel => exact ⟨(wrap64 (x4_1 + 1)), (by first | rfl | (simp; done) | (simp [*]; done)), H', ⟨by have := HK1.out; omega⟩, ⟨by (with_reducible repeat (first | apply Kd.R_alloc | apply Kd.R_drewN | apply Kd.R_drew)); exact HO_3.out⟩, ⟨by repeat (first | (with_reducible first | exact HB.out | apply below_alloc | apply pw_below_drewN | apply below_drew1) | exact HB.out)⟩⟩
              · rw [if_neg c8] at H
                exact absurd H (by simp)
            · rw [if_neg c7] at H
              exact absurd H (by simp)
          · rw [if_neg c6] at H
            have c6b0 : decide (((rdOf ByteArray.empty t367 x4_1).size : Int) ≤ (a0.size : Int)) = false := decide_eq_false c6
            have c6b1 : decide ((rdOf ByteArray.empty t367 x4_1).size ≤ a0.size) = false := decide_eq_false (fun h => c6 (Int.ofNat_le.mpr h))
            clear c6
            have H' := Aside0.mk H
            clear H
            obtain ⟨Ao12, co12, eo12⟩ := Kd.R_slice HO_3.out
            subst eo12
            have p370 : 0 ≤ (x4_1 : Int) := of_decide_eq_true (by first | (with_reducible assumption) | assumption)
            have q370 : x4_1 < (t367.length : Int) := of_decide_eq_true (by first | (with_reducible assumption) | assumption)
            obtain ⟨ad370, e370, hx370_0⟩ := Kd.at_string (Kd.R_reads' HO_3.out).2.2 x4_1 p370 q370
            cases e370
            replace p370 := eq_true p370
            replace q370 := eq_true q370
            go_wp2
            repeat (go_quiet (fail); try go_wp2)
            go_roundg k1
            case measure => have := HK1.out; omega
            case rel => exact ⟨(wrap64 (x4_1 + 1)), (by first | rfl | (simp; done) | (simp [*]; done)), H', ⟨by have := HK1.out; omega⟩, ⟨by (with_reducible repeat (first | apply Kd.R_alloc | apply Kd.R_drewN | apply Kd.R_drew)); exact HO_3.out⟩, ⟨by repeat (first | (with_reducible first | exact HB.out | apply below_alloc | apply pw_below_drewN | apply below_drew1) | exact HB.out)⟩⟩
        · rw [if_neg c5] at H
          exact absurd H (by simp)
      · rw [if_neg c4] at H
        have c4b0 : decide (x4_1 < (t367.length : Int)) = false := decide_eq_false c4
        clear c4
        obtain rfl := Option.some.inj H
        obtain ⟨Ao13, co13, eo13⟩ := Kd.R_slice HO_3.out
        subst eo13
        go_wp2
        repeat (go_quiet (fail); try go_wp2)
        go_ret
        exact ⟨by first | rfl | (simp [errW_none, errW_some] <;> rfl) | (simp [*, errW_none, errW_some] <;> rfl), by repeat (first | (with_reducible first | exact HB.out | apply below_alloc | apply pw_below_drewN | apply below_drew1) | exact HB.out)⟩

end Go.Proofs.Ytifcnblgpnfehaa.X
