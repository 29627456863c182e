-- Laid by xprint.py, a program of this session's, out of the translation.
import Derived.Test.YtifcnblgpnfehaaX0
import Derived.Test.YtifcnblgpnfehaaX17
import Derived.Test.YtifcnblgpnfehaaX18
namespace Go.Proofs.Ytifcnblgpnfehaa.X
open Go.RowKit Go.Proofs.YtifcnblgpnfehaaW.PrintWords Go.Proofs.YtifcnblgpnfehaaW.PrintLast Go.Proofs.YtifcnblgpnfehaaW.PrintMore
attribute [local go_sem] max2_int min2_int max_two min_two max_three min_three max_four min_four x_isSome   -- for this text's walks alone
set_option linter.unusedVariables false
set_option linter.unusedSimpArgs false

/-! ### archivistlaw07_LexLongest: function 6 -/
def archivistlaw07_LexLongest.l0 : Nat → List Int → Bool → ByteArray → ByteArray → ByteArray → ByteArray → Int → Option (Bool)
  | 0, _, _, _, _, _, _, _ => none
  | k + 1, x2, x7, x9, x10, x11, x12, x13 => if x13 < (x2.length : Int) then (if x13 < 20 then (if 0 ≤ x13 then (if 0 ≤ (Int.tmod (rd x2 x13) 10) then (if (Int.tmod (rd x2 x13) 10) < 10 then ((some (([bt (⟨#[97, 98, 99, 122, 48, 49, 56, 57, 88, 89]⟩ : ByteArray) (Int.tmod (rd x2 x13) 10)] : List Int) : List Int)).bind fun y466 => (if x11.size + (strOfNums y466).size ≤ 9223372036854775807 then (if x12.size + (strOfNums y466).size ≤ 9223372036854775807 then (archivistlaw07_LexLongest.l0 k x2 x7 x9 x10 (x11 ++ (strOfNums y466)) (x12 ++ (strOfNums y466)) (wrap64 (x13 + 1))) else (none)) else (none))) else (none)) else (none)) else (none)) else (if x9.size + x10.size ≤ 9223372036854775807 then (if (x9 ++ x10).size + x11.size ≤ 9223372036854775807 then (if ((x9 ++ x10) ++ x11).size + x10.size ≤ 9223372036854775807 then (if (((x9 ++ x10) ++ x11) ++ x10).size + x12.size ≤ 9223372036854775807 then (if ((((x9 ++ x10) ++ x11) ++ x10) ++ x12).size + x10.size ≤ 9223372036854775807 then ((lex_All.f k (((((x9 ++ x10) ++ x11) ++ x10) ++ x12) ++ x10)).bind fun bt469 => (if x7 = true then (if bt469.2.2 = 0 then (if bt469.2.1 = (wrap64 ((wrap64 ((wrap64 ((x9.size : Int) + 3)) + (x11.size : Int))) + (x12.size : Int))) then (if (bt469.1.length : Int) = 6 then (if 0 < (bt469.1.length : Int) then (if ((rd_T33 bt469.1 0).f1).toList = x9.toList then (if 1 < (bt469.1.length : Int) then (if ((rd_T33 bt469.1 1).f1).toList = x10.toList then (if 2 < (bt469.1.length : Int) then (if ((rd_T33 bt469.1 2).f1).toList = x11.toList then (if ((rd_T33 bt469.1 2).f0) = 1 then (if 4 < (bt469.1.length : Int) then (if ((rd_T33 bt469.1 4).f1).toList = x12.toList then (if ((rd_T33 bt469.1 4).f0) = 3 then (if 5 < (bt469.1.length : Int) then (some (((rd_T33 bt469.1 5).f2) == (wrap64 (bt469.2.1 - 1)))) else (none)) else (none)) else (none)) else (none)) else (none)) else (none)) else (none)) else (none)) else (none)) else (none)) else (none)) else (none)) else (none)) else (none)) else (none))) else (none)) else (none)) else (none)) else (none)) else (none))) else (if x9.size + x10.size ≤ 9223372036854775807 then (if (x9 ++ x10).size + x11.size ≤ 9223372036854775807 then (if ((x9 ++ x10) ++ x11).size + x10.size ≤ 9223372036854775807 then (if (((x9 ++ x10) ++ x11) ++ x10).size + x12.size ≤ 9223372036854775807 then (if ((((x9 ++ x10) ++ x11) ++ x10) ++ x12).size + x10.size ≤ 9223372036854775807 then ((lex_All.f k (((((x9 ++ x10) ++ x11) ++ x10) ++ x12) ++ x10)).bind fun bt481 => (if x7 = true then (if bt481.2.2 = 0 then (if bt481.2.1 = (wrap64 ((wrap64 ((wrap64 ((x9.size : Int) + 3)) + (x11.size : Int))) + (x12.size : Int))) then (if (bt481.1.length : Int) = 6 then (if 0 < (bt481.1.length : Int) then (if ((rd_T33 bt481.1 0).f1).toList = x9.toList then (if 1 < (bt481.1.length : Int) then (if ((rd_T33 bt481.1 1).f1).toList = x10.toList then (if 2 < (bt481.1.length : Int) then (if ((rd_T33 bt481.1 2).f1).toList = x11.toList then (if ((rd_T33 bt481.1 2).f0) = 1 then (if 4 < (bt481.1.length : Int) then (if ((rd_T33 bt481.1 4).f1).toList = x12.toList then (if ((rd_T33 bt481.1 4).f0) = 3 then (if 5 < (bt481.1.length : Int) then (some (((rd_T33 bt481.1 5).f2) == (wrap64 (bt481.2.1 - 1)))) else (none)) else (none)) else (none)) else (none)) else (none)) else (none)) else (none)) else (none)) else (none)) else (none)) else (none)) else (none)) else (none)) else (none)) else (none))) else (none)) else (none)) else (none)) else (none)) else (none))
def archivistlaw07_LexLongest.f (k : Nat) (a0 : Int) (a1 : Int) (l2 : List Int) : Option (Bool) := (archivistlaw07_examples.f k).bind fun t456 => (if t456 = true then ((some (([(⟨#[61, 126]⟩ : ByteArray), (⟨#[33, 126]⟩ : ByteArray), (⟨#[33, 61]⟩ : ByteArray), (⟨#[61, 61]⟩ : ByteArray), (⟨#[62, 61]⟩ : ByteArray), (⟨#[60, 61]⟩ : ByteArray), (⟨#[124, 61]⟩ : ByteArray), (⟨#[124, 126]⟩ : ByteArray)] : List ByteArray) : List ByteArray)).bind fun y457 => (if 0 ≤ (Int.tmod a0 8) then (if (Int.tmod a0 8) < (y457.length : Int) then ((some (([(⟨#[123]⟩ : ByteArray), (⟨#[125]⟩ : ByteArray), (⟨#[44]⟩ : ByteArray), (⟨#[62]⟩ : ByteArray), (⟨#[60]⟩ : ByteArray)] : List ByteArray) : List ByteArray)).bind fun y461 => (if 0 ≤ (Int.tmod a1 5) then (if (Int.tmod a1 5) < (y461.length : Int) then (archivistlaw07_LexLongest.l0 k l2 t456 (rdOf ByteArray.empty y457 (Int.tmod a0 8)) (rdOf ByteArray.empty y461 (Int.tmod a1 5)) (⟨#[97]⟩ : ByteArray) (⟨#[55]⟩ : ByteArray) 0) else (none)) else (none))) else (none)) else (none))) else (none))
theorem archivistlaw07_LexLongest.mono_l : ∀ k, (∀ y0 y1 y2 y3 y4 y5 y6, LeO (archivistlaw07_LexLongest.l0 k y0 y1 y2 y3 y4 y5 y6) (archivistlaw07_LexLongest.l0 (k + 1) y0 y1 y2 y3 y4 y5 y6))
  | 0 => fun _ _ _ _ _ _ _ r h => by simp [archivistlaw07_LexLongest.l0] at h
  | k + 1 => by
    have ih0 := archivistlaw07_LexLongest.mono_l k
    · intro y0 y1 y2 y3 y4 y5 y6
      unfold archivistlaw07_LexLongest.l0
      repeat' first
      | (with_reducible exact ih0 _ _ _ _ _ _ _)
      | (with_reducible exact archivistlaw07_examples.mono _)
      | (with_reducible exact lex_All.mono _ _)
      | (with_reducible exact LeO.refl _)
      | (with_reducible exact LeO.none _)
      | (with_reducible refine LeO.ite ?_ ?_)
      | (with_reducible refine LeO.bind ?_ (fun _ => ?_))
      | exact ih0 _ _ _ _ _ _ _
      | exact archivistlaw07_examples.mono _
      | exact lex_All.mono _ _
      | exact LeO.none _
      | refine LeO.ite ?_ ?_
      | refine LeO.bind ?_ (fun _ => ?_)
theorem archivistlaw07_LexLongest.mono : ∀ a0 a1 a2 k, LeO (archivistlaw07_LexLongest.f k a0 a1 a2) (archivistlaw07_LexLongest.f (k + 1) a0 a1 a2) := by
  intro a0 a1 a2 k
  have ih0 := archivistlaw07_LexLongest.mono_l k
  unfold archivistlaw07_LexLongest.f
  repeat' first
      | (with_reducible exact ih0 _ _ _ _ _ _ _)
      | (with_reducible exact archivistlaw07_examples.mono _)
      | (with_reducible exact lex_All.mono _ _)
      | (with_reducible exact LeO.refl _)
      | (with_reducible exact LeO.none _)
      | (with_reducible refine LeO.ite ?_ ?_)
      | (with_reducible refine LeO.bind ?_ (fun _ => ?_))
      | exact ih0 _ _ _ _ _ _ _
      | exact archivistlaw07_examples.mono _
      | exact lex_All.mono _ _
      | exact LeO.none _
      | refine LeO.ite ?_ ?_
      | refine LeO.bind ?_ (fun _ => ?_)
set_option maxHeartbeats 8000000 in
set_option maxRecDepth 100000 in
theorem archivistlaw07_LexLongest.calls (k : Nat) (a0 : Int) (a1 : Int) (A2 : Option Addr) (c2 : Nat) (l2 : List Int) (r : Bool) (w : World) (hr2 : Kd.C (Kd.int .u8) w A2 l2.length l2) (hc2 : l2.length ≤ c2) (h : archivistlaw07_LexLongest.f k a0 a1 l2 = some r) :
    Calls Try.prog 6 #[.int .u8 a0, .int .u8 a1, .slice A2 l2.length c2] w fun e w' => e = .returned (.bool r) ∧ Below w.heap.size w w' := by
  have HR2 := Aside0.mk hr2
  have HC2 := Aside0.mk hc2
  clear hr2 hc2
  have HB := Aside0.mk (Below.refl w.heap.size w)
  have H : ((archivistlaw07_examples.f k).bind fun t456 => (if t456 = true then ((some (([(⟨#[61, 126]⟩ : ByteArray), (⟨#[33, 126]⟩ : ByteArray), (⟨#[33, 61]⟩ : ByteArray), (⟨#[61, 61]⟩ : ByteArray), (⟨#[62, 61]⟩ : ByteArray), (⟨#[60, 61]⟩ : ByteArray), (⟨#[124, 61]⟩ : ByteArray), (⟨#[124, 126]⟩ : ByteArray)] : List ByteArray) : List ByteArray)).bind fun y457 => (if 0 ≤ (Int.tmod a0 8) then (if (Int.tmod a0 8) < (y457.length : Int) then ((some (([(⟨#[123]⟩ : ByteArray), (⟨#[125]⟩ : ByteArray), (⟨#[44]⟩ : ByteArray), (⟨#[62]⟩ : ByteArray), (⟨#[60]⟩ : ByteArray)] : List ByteArray) : List ByteArray)).bind fun y461 => (if 0 ≤ (Int.tmod a1 5) then (if (Int.tmod a1 5) < (y461.length : Int) then (archivistlaw07_LexLongest.l0 k l2 t456 (rdOf ByteArray.empty y457 (Int.tmod a0 8)) (rdOf ByteArray.empty y461 (Int.tmod a1 5)) (⟨#[97]⟩ : ByteArray) (⟨#[55]⟩ : ByteArray) 0) else (none)) else (none))) else (none)) else (none))) else (none))) = some r := h
  clear h
  replace H := Option.bind_eq_some_iff.mp H
  obtain ⟨t456, A40, H⟩ := H
  replace H : (if t456 = true then ((some (([(⟨#[61, 126]⟩ : ByteArray), (⟨#[33, 126]⟩ : ByteArray), (⟨#[33, 61]⟩ : ByteArray), (⟨#[61, 61]⟩ : ByteArray), (⟨#[62, 61]⟩ : ByteArray), (⟨#[60, 61]⟩ : ByteArray), (⟨#[124, 61]⟩ : ByteArray), (⟨#[124, 126]⟩ : ByteArray)] : List ByteArray) : List ByteArray)).bind fun y457 => (if 0 ≤ (Int.tmod a0 8) then (if (Int.tmod a0 8) < (y457.length : Int) then ((some (([(⟨#[123]⟩ : ByteArray), (⟨#[125]⟩ : ByteArray), (⟨#[44]⟩ : ByteArray), (⟨#[62]⟩ : ByteArray), (⟨#[60]⟩ : ByteArray)] : List ByteArray) : List ByteArray)).bind fun y461 => (if 0 ≤ (Int.tmod a1 5) then (if (Int.tmod a1 5) < (y461.length : Int) then (archivistlaw07_LexLongest.l0 k l2 t456 (rdOf ByteArray.empty y457 (Int.tmod a0 8)) (rdOf ByteArray.empty y461 (Int.tmod a1 5)) (⟨#[97]⟩ : ByteArray) (⟨#[55]⟩ : ByteArray) 0) else (none)) else (none))) else (none)) else (none))) else (none)) = some r := H
  have A4 := Aside0.mk A40
  clear A40
  by_cases c5 : t456 = true
  · subst c5
    have H1 : ((some (([(⟨#[61, 126]⟩ : ByteArray), (⟨#[33, 126]⟩ : ByteArray), (⟨#[33, 61]⟩ : ByteArray), (⟨#[61, 61]⟩ : ByteArray), (⟨#[62, 61]⟩ : ByteArray), (⟨#[60, 61]⟩ : ByteArray), (⟨#[124, 61]⟩ : ByteArray), (⟨#[124, 126]⟩ : ByteArray)] : List ByteArray) : List ByteArray)).bind fun y457 => (if 0 ≤ (Int.tmod a0 8) then (if (Int.tmod a0 8) < (y457.length : Int) then ((some (([(⟨#[123]⟩ : ByteArray), (⟨#[125]⟩ : ByteArray), (⟨#[44]⟩ : ByteArray), (⟨#[62]⟩ : ByteArray), (⟨#[60]⟩ : ByteArray)] : List ByteArray) : List ByteArray)).bind fun y461 => (if 0 ≤ (Int.tmod a1 5) then (if (Int.tmod a1 5) < (y461.length : Int) then (archivistlaw07_LexLongest.l0 k l2 true (rdOf ByteArray.empty y457 (Int.tmod a0 8)) (rdOf ByteArray.empty y461 (Int.tmod a1 5)) (⟨#[97]⟩ : ByteArray) (⟨#[55]⟩ : ByteArray) 0) else (none)) else (none))) else (none)) else (none))) = some r := by rw [if_pos rfl] at H; exact H
    clear H
    have H := H1
    clear H1
    obtain ⟨y457, hy457⟩ : ∃ y_ : List ByteArray, y_ = (([(⟨#[61, 126]⟩ : ByteArray), (⟨#[33, 126]⟩ : ByteArray), (⟨#[33, 61]⟩ : ByteArray), (⟨#[61, 61]⟩ : ByteArray), (⟨#[62, 61]⟩ : ByteArray), (⟨#[60, 61]⟩ : ByteArray), (⟨#[124, 61]⟩ : ByteArray), (⟨#[124, 126]⟩ : ByteArray)] : List ByteArray)) := ⟨_, rfl⟩
    replace H : (if 0 ≤ (Int.tmod a0 8) then (if (Int.tmod a0 8) < (y457.length : Int) then ((some (([(⟨#[123]⟩ : ByteArray), (⟨#[125]⟩ : ByteArray), (⟨#[44]⟩ : ByteArray), (⟨#[62]⟩ : ByteArray), (⟨#[60]⟩ : ByteArray)] : List ByteArray) : List ByteArray)).bind fun y461 => (if 0 ≤ (Int.tmod a1 5) then (if (Int.tmod a1 5) < (y461.length : Int) then (archivistlaw07_LexLongest.l0 k l2 true (rdOf ByteArray.empty y457 (Int.tmod a0 8)) (rdOf ByteArray.empty y461 (Int.tmod a1 5)) (⟨#[97]⟩ : ByteArray) (⟨#[55]⟩ : ByteArray) 0) else (none)) else (none))) else (none)) else (none)) = some r := by first | (rw [hy457]; with_reducible exact H) | (have H2_ := (Option.bind_some _ _).symm.trans H; rw [hy457]; with_reducible exact H2_) | (have H2_ := (Option.bind_some _ _).symm.trans H; with_reducible exact H2_) | with_reducible exact H | (rw [hy457]; exact H) | exact H
    have Ny457 := Aside0.mk hy457
    clear hy457
    obtain ⟨ji6, hji6⟩ : ∃ j_ : Int, (Int.tmod a0 8) = j_ := ⟨_, rfl⟩
    replace H : (if 0 ≤ (ji6) then (if (ji6) < (y457.length : Int) then ((some (([(⟨#[123]⟩ : ByteArray), (⟨#[125]⟩ : ByteArray), (⟨#[44]⟩ : ByteArray), (⟨#[62]⟩ : ByteArray), (⟨#[60]⟩ : ByteArray)] : List ByteArray) : List ByteArray)).bind fun y461 => (if 0 ≤ (Int.tmod a1 5) then (if (Int.tmod a1 5) < (y461.length : Int) then (archivistlaw07_LexLongest.l0 k l2 true (rdOf ByteArray.empty y457 (ji6)) (rdOf ByteArray.empty y461 (Int.tmod a1 5)) (⟨#[97]⟩ : ByteArray) (⟨#[55]⟩ : ByteArray) 0) else (none)) else (none))) else (none)) else (none)) = some r := by first | (rw [hji6] at H; exact H) | (simp only [hji6] at H ⊢; exact H)
    (try rw [hji6] at A4)
    by_cases c7 : 0 ≤ (ji6)
    · rw [if_pos c7] at H
      have c7b0 : decide (0 ≤ (ji6)) = true := decide_eq_true c7
      clear c7
      by_cases c8 : (ji6) < (y457.length : Int)
      · rw [if_pos c8] at H
        have c8b0 : decide ((ji6) < (y457.length : Int)) = true := decide_eq_true c8
        clear c8
        obtain ⟨y461, hy461⟩ : ∃ y_ : List ByteArray, y_ = (([(⟨#[123]⟩ : ByteArray), (⟨#[125]⟩ : ByteArray), (⟨#[44]⟩ : ByteArray), (⟨#[62]⟩ : ByteArray), (⟨#[60]⟩ : ByteArray)] : List ByteArray)) := ⟨_, rfl⟩
        replace H : (if 0 ≤ (Int.tmod a1 5) then (if (Int.tmod a1 5) < (y461.length : Int) then (archivistlaw07_LexLongest.l0 k l2 true (rdOf ByteArray.empty y457 (ji6)) (rdOf ByteArray.empty y461 (Int.tmod a1 5)) (⟨#[97]⟩ : ByteArray) (⟨#[55]⟩ : ByteArray) 0) else (none)) else (none)) = some r := by first | (rw [hy461]; with_reducible exact H) | (have H2_ := (Option.bind_some _ _).symm.trans H; rw [hy461]; with_reducible exact H2_) | (have H2_ := (Option.bind_some _ _).symm.trans H; with_reducible exact H2_) | with_reducible exact H | (rw [hy461]; exact H) | exact H
        have Ny461 := Aside0.mk hy461
        clear hy461
        obtain ⟨ji9, hji9⟩ : ∃ j_ : Int, (Int.tmod a1 5) = j_ := ⟨_, rfl⟩
        replace H : (if 0 ≤ (ji9) then (if (ji9) < (y461.length : Int) then (archivistlaw07_LexLongest.l0 k l2 true (rdOf ByteArray.empty y457 (ji6)) (rdOf ByteArray.empty y461 (ji9)) (⟨#[97]⟩ : ByteArray) (⟨#[55]⟩ : ByteArray) 0) else (none)) else (none)) = some r := by first | (rw [hji9] at H; exact H) | (simp only [hji9] at H ⊢; exact H)
        (try rw [hji9] at A4)
        by_cases c10 : 0 ≤ (ji9)
        · rw [if_pos c10] at H
          have c10b0 : decide (0 ≤ (ji9)) = true := decide_eq_true c10
          clear c10
          by_cases c11 : (ji9) < (y461.length : Int)
          · rw [if_pos c11] at H
            have c11b0 : decide ((ji9) < (y461.length : Int)) = true := decide_eq_true c11
            clear c11
            have H' := Aside0.mk H
            clear H
            go_enter Try.func6, Try.ntmps6
            go_wp2_with (first | ((with_reducible refine gate_callee (f := 15) rfl ?_); refine goesL_ (some 18) rfl rfl Try.func15 (by kernel_rfl) rfl #[] rfl (by (try simp only [List.map_toArray, List.map_cons, List.map_nil]); first | done | rfl | (simp only [List.length_drop, List.length_take]; rfl)) ?_; (with_reducible refine (archivistlaw07_examples.calls k  true _ A4.out).mono ?_); rintro e w12 ⟨rfl, hb⟩; refine ⟨_, rfl, ?_⟩; have n0_ := Aside0.mk (below_step (by repeat (first | (with_reducible first | exact HB.out | apply below_alloc | apply pw_below_drewN | apply below_drew1) | exact HB.out)) hb); clear HB; have HB := n0_; clear n0_; (try clear hb); (try clear hb2); (try clear hk); (try clear hi)) | ((with_reducible refine gate_dst (N := 21) rfl ?_); (try (refine gate_guard (by rfl) ?_; dsimp only)); refine Kd.R_lit Kd.string _ 9 ?hg (N := 21) ?hd (xs := ([(⟨#[61, 126]⟩ : ByteArray), (⟨#[33, 126]⟩ : ByteArray), (⟨#[33, 61]⟩ : ByteArray), (⟨#[61, 61]⟩ : ByteArray), (⟨#[62, 61]⟩ : ByteArray), (⟨#[60, 61]⟩ : ByteArray), (⟨#[124, 61]⟩ : ByteArray), (⟨#[124, 126]⟩ : ByteArray)] : List ByteArray)) (inner := [.string (⟨#[61, 126]⟩ : ByteArray), .string (⟨#[33, 126]⟩ : ByteArray), .string (⟨#[33, 61]⟩ : ByteArray), .string (⟨#[61, 61]⟩ : ByteArray), .string (⟨#[62, 61]⟩ : ByteArray), .string (⟨#[60, 61]⟩ : ByteArray), .string (⟨#[124, 61]⟩ : ByteArray), .string (⟨#[124, 126]⟩ : ByteArray)]) (ok := fun _ => True) (okp := fun _ => True) ?hr ?hp (fun _ hk => hk) trivial (Below.refl _ _) (Nat.le_refl _) (by simp) ?_; (case hd => rfl); (case hg => rfl); (case hr => first | (go_simp; done) | (go_simp; rfl)); (case hp => exact (Reps.one (show Kd.M Kd.string _ _ _ (⟨#[61, 126]⟩ : ByteArray) [.string (⟨#[61, 126]⟩ : ByteArray)] from rfl) (Reps.one (show Kd.M Kd.string _ _ _ (⟨#[33, 126]⟩ : ByteArray) [.string (⟨#[33, 126]⟩ : ByteArray)] from rfl) (Reps.one (show Kd.M Kd.string _ _ _ (⟨#[33, 61]⟩ : ByteArray) [.string (⟨#[33, 61]⟩ : ByteArray)] from rfl) (Reps.one (show Kd.M Kd.string _ _ _ (⟨#[61, 61]⟩ : ByteArray) [.string (⟨#[61, 61]⟩ : ByteArray)] from rfl) (Reps.one (show Kd.M Kd.string _ _ _ (⟨#[62, 61]⟩ : ByteArray) [.string (⟨#[62, 61]⟩ : ByteArray)] from rfl) (Reps.one (show Kd.M Kd.string _ _ _ (⟨#[60, 61]⟩ : ByteArray) [.string (⟨#[60, 61]⟩ : ByteArray)] from rfl) (Reps.one (show Kd.M Kd.string _ _ _ (⟨#[124, 61]⟩ : ByteArray) [.string (⟨#[124, 61]⟩ : ByteArray)] from rfl) (Reps.one (show Kd.M Kd.string _ _ _ (⟨#[124, 126]⟩ : ByteArray) [.string (⟨#[124, 126]⟩ : ByteArray)] from rfl) (Reps.none _ _)))))))))); intro v458 w13 ho14 hb hg_ hnew_; clear hg_ hnew_; (first | rw [← Ny457.out] at ho14 | (simp only [Int.reduceToNat] at ho14; rw [← Ny457.out] at ho14)); have n0_ := Aside0.mk (Kd.R_lower ho14 (below_size (by repeat (first | (with_reducible first | exact HB.out | apply below_alloc | apply pw_below_drewN | apply below_drew1) | exact HB.out)))); have n1_ := Aside0.mk (below_step (by repeat (first | (with_reducible first | exact HB.out | apply below_alloc | apply pw_below_drewN | apply below_drew1) | exact HB.out)) hb); clear HB; have HO459 := n0_; have HB := n1_; clear n0_ n1_; clear hb ho14; obtain ⟨Ao15, co15, eo15⟩ := Kd.R_slice HO459.out; subst eo15; have p460 : 0 ≤ ((ji6) : Int) := of_decide_eq_true (by first | (with_reducible assumption) | assumption); have q460 : (ji6) < (y457.length : Int) := of_decide_eq_true (by first | (with_reducible assumption) | assumption); obtain ⟨ad460, e460, hx460_0⟩ := Kd.at_string (Kd.R_reads' HO459.out).2.2 (ji6) p460 q460; cases e460; replace p460 := eq_true p460; replace q460 := eq_true q460) | ((with_reducible refine gate_dst (N := 27) rfl ?_); (try (refine gate_guard (by rfl) ?_; dsimp only)); refine Kd.R_lit Kd.string _ 9 ?hg (N := 27) ?hd (xs := ([(⟨#[123]⟩ : ByteArray), (⟨#[125]⟩ : ByteArray), (⟨#[44]⟩ : ByteArray), (⟨#[62]⟩ : ByteArray), (⟨#[60]⟩ : ByteArray)] : List ByteArray)) (inner := [.string (⟨#[123]⟩ : ByteArray), .string (⟨#[125]⟩ : ByteArray), .string (⟨#[44]⟩ : ByteArray), .string (⟨#[62]⟩ : ByteArray), .string (⟨#[60]⟩ : ByteArray)]) (ok := fun _ => True) (okp := fun _ => True) ?hr ?hp (fun _ hk => hk) trivial (Below.refl _ _) (Nat.le_refl _) (by simp) ?_; (case hd => rfl); (case hg => rfl); (case hr => first | (go_simp; done) | (go_simp; rfl)); (case hp => exact (Reps.one (show Kd.M Kd.string _ _ _ (⟨#[123]⟩ : ByteArray) [.string (⟨#[123]⟩ : ByteArray)] from rfl) (Reps.one (show Kd.M Kd.string _ _ _ (⟨#[125]⟩ : ByteArray) [.string (⟨#[125]⟩ : ByteArray)] from rfl) (Reps.one (show Kd.M Kd.string _ _ _ (⟨#[44]⟩ : ByteArray) [.string (⟨#[44]⟩ : ByteArray)] from rfl) (Reps.one (show Kd.M Kd.string _ _ _ (⟨#[62]⟩ : ByteArray) [.string (⟨#[62]⟩ : ByteArray)] from rfl) (Reps.one (show Kd.M Kd.string _ _ _ (⟨#[60]⟩ : ByteArray) [.string (⟨#[60]⟩ : ByteArray)] from rfl) (Reps.none _ _))))))); intro v462 w16 ho17 hb hg_ hnew_; clear hg_ hnew_; (first | rw [← Ny461.out] at ho17 | (simp only [Int.reduceToNat] at ho17; rw [← Ny461.out] at ho17)); have n0_ := Aside0.mk (Kd.R_elder' (by (with_reducible repeat (first | apply Kd.R_alloc | apply Kd.R_drewN | apply Kd.R_drew)); exact HO459.out) (Kd.R_base ho17) hb); have n1_ := Aside0.mk (Kd.R_lower (Kd.R_new' ho17 (Kd.R_lt (by (with_reducible repeat (first | apply Kd.R_alloc | apply Kd.R_drewN | apply Kd.R_drew)); exact HO459.out))) (below_size (by repeat (first | (with_reducible first | exact HB.out | apply below_alloc | apply pw_below_drewN | apply below_drew1) | exact HB.out)))); have n2_ := Aside0.mk (below_step (by repeat (first | (with_reducible first | exact HB.out | apply below_alloc | apply pw_below_drewN | apply below_drew1) | exact HB.out)) hb); clear HO459; clear HB; have HO459 := n0_; have HO463 := n1_; have HB := n2_; clear n0_ n1_ n2_; clear hb ho17; obtain ⟨Ao18, co18, eo18⟩ := Kd.R_slice HO463.out; subst eo18; have p464 : 0 ≤ ((ji9) : Int) := of_decide_eq_true (by first | (with_reducible assumption) | assumption); have q464 : (ji9) < (y461.length : Int) := of_decide_eq_true (by first | (with_reducible assumption) | assumption); obtain ⟨ad464, e464, hx464_0⟩ := Kd.at_string (Kd.R_reads' HO463.out).2.2 (ji9) p464 q464; cases e464; replace p464 := eq_true p464; replace q464 := eq_true q464))
            go_loopg [11, 12, 13] k (fun kq v11 v12 v13 w' => ∃ (x11_1 : ByteArray) (x12_1 : ByteArray) (x13_1 : Int), v11 = .string x11_1 ∧ v12 = .string x12_1 ∧ v13 = .int .i64 x13_1 ∧ Aside0 (archivistlaw07_LexLongest.l0 kq l2 true (rdOf ByteArray.empty y457 (ji6)) (rdOf ByteArray.empty y461 (ji9)) x11_1 x12_1 x13_1 = some r) ∧ Aside0 (kq ≤ k) ∧ Aside0 (Below w.heap.size w w'))
            case atStart => exact ⟨((⟨#[97]⟩ : ByteArray)), ((⟨#[55]⟩ : ByteArray)), (0), (by first | rfl | (simp; done) | (simp [*]; done)), (by first | rfl | (simp; done) | (simp [*]; done)), (by first | rfl | (simp; done) | (simp [*]; done)), H', ⟨Nat.le_refl _⟩, ⟨by repeat (first | (with_reducible first | exact HB.out | apply below_alloc | apply pw_below_drewN | apply below_drew1) | exact HB.out)⟩⟩
            case round =>
              clear H'
              try clear c1
              try clear c2
              try clear p2
              try clear p4
              try clear q4
              try clear hx4
              try clear c5
              try clear c6
              try clear c7
              try clear c7b0
              try clear c8
              try clear c8b0
              try clear c10
              try clear c10b0
              try clear c11
              try clear c11b0
              try clear c15
              try clear hx460_0
              try clear hx464_0
              try clear p460
              try clear p464
              try clear q460
              try clear q464
              obtain ⟨x11_1, x12_1, x13_1, rfl, rfl, rfl, HA, HK1, HB⟩ := hrel
              cases gk with
              | zero => exact absurd HA.out (by simp [archivistlaw07_LexLongest.l0])
              | succ k1 =>
                have H := HA.out
                clear HA
                simp only [archivistlaw07_LexLongest.l0] at H
                by_cases c19 : x13_1 < (l2.length : Int)
                · rw [if_pos c19] at H
                  have c19b0 : decide (x13_1 < (l2.length : Int)) = true := decide_eq_true c19
                  clear c19
                  by_cases c20 : x13_1 < 20
                  · rw [if_pos c20] at H
                    have c20b0 : decide (x13_1 < 20) = true := decide_eq_true c20
                    clear c20
                    by_cases c21 : 0 ≤ x13_1
                    · rw [if_pos c21] at H
                      have c21b0 : decide (0 ≤ x13_1) = true := decide_eq_true c21
                      clear c21
                      obtain ⟨ji22, hji22⟩ : ∃ j_ : Int, (Int.tmod (rd l2 x13_1) 10) = j_ := ⟨_, rfl⟩
                      replace H : (if 0 ≤ (ji22) then (if (ji22) < 10 then ((some (([bt (⟨#[97, 98, 99, 122, 48, 49, 56, 57, 88, 89]⟩ : ByteArray) (ji22)] : List Int) : List Int)).bind fun y466 => (if x11_1.size + (strOfNums y466).size ≤ 9223372036854775807 then (if x12_1.size + (strOfNums y466).size ≤ 9223372036854775807 then (archivistlaw07_LexLongest.l0 k1 l2 true (rdOf ByteArray.empty y457 (ji6)) (rdOf ByteArray.empty y461 (ji9)) (x11_1 ++ (strOfNums y466)) (x12_1 ++ (strOfNums y466)) (wrap64 (x13_1 + 1))) else (none)) else (none))) else (none)) else (none)) = some r := by first | (rw [hji22] at H; exact H) | (simp only [hji22] at H ⊢; exact H)
                      by_cases c23 : 0 ≤ (ji22)
                      · rw [if_pos c23] at H
                        have c23b0 : decide (0 ≤ (ji22)) = true := decide_eq_true c23
                        clear c23
                        by_cases c24 : (ji22) < 10
                        · rw [if_pos c24] at H
                          have c24b0 : decide ((ji22) < 10) = true := decide_eq_true c24
                          clear c24
                          obtain ⟨y466, hy466⟩ : ∃ y_ : List Int, y_ = (([bt (⟨#[97, 98, 99, 122, 48, 49, 56, 57, 88, 89]⟩ : ByteArray) (ji22)] : List Int)) := ⟨_, rfl⟩
                          replace H : (if x11_1.size + (strOfNums y466).size ≤ 9223372036854775807 then (if x12_1.size + (strOfNums y466).size ≤ 9223372036854775807 then (archivistlaw07_LexLongest.l0 k1 l2 true (rdOf ByteArray.empty y457 (ji6)) (rdOf ByteArray.empty y461 (ji9)) (x11_1 ++ (strOfNums y466)) (x12_1 ++ (strOfNums y466)) (wrap64 (x13_1 + 1))) else (none)) else (none)) = some r := by first | (rw [hy466]; with_reducible exact H) | (have H2_ := (Option.bind_some _ _).symm.trans H; rw [hy466]; with_reducible exact H2_) | (have H2_ := (Option.bind_some _ _).symm.trans H; with_reducible exact H2_) | with_reducible exact H | (rw [hy466]; exact H) | exact H
                          have Ny466 := Aside0.mk hy466
                          clear hy466
                          by_cases c26 : x11_1.size + (strOfNums y466).size ≤ 9223372036854775807
                          · rw [if_pos c26] at H
                            have c26b0 := eq_true c26
                            have c26b1 : decide (x11_1.size + (strOfNums y466).size ≤ 9223372036854775807) = true := decide_eq_true c26
                            try have c26b2 : (9223372036854775807 < x11_1.size + (strOfNums y466).size) = False := eq_false (Nat.not_lt.2 c26)
                            by_cases c27 : x12_1.size + (strOfNums y466).size ≤ 9223372036854775807
                            · rw [if_pos c27] at H
                              have c27b0 := eq_true c27
                              have c27b1 : decide (x12_1.size + (strOfNums y466).size ≤ 9223372036854775807) = true := decide_eq_true c27
                              try have c27b2 : (9223372036854775807 < x12_1.size + (strOfNums y466).size) = False := eq_false (Nat.not_lt.2 c27)
                              have H' := Aside0.mk H
                              clear H
                              have p465 : 0 ≤ (x13_1 : Int) := of_decide_eq_true (by first | (with_reducible assumption) | assumption)
                              have q465 : x13_1 < (l2.length : Int) := of_decide_eq_true (by first | (with_reducible assumption) | assumption)
                              obtain ⟨ad465, e465, hx465_0⟩ := Kd.at_int HR2.out x13_1 p465 q465
                              cases e465
                              replace hx465_0 := (HB.out.cell (World.block_lt_of_cell? w _ hx465_0)).trans hx465_0
                              replace p465 := eq_true p465
                              replace q465 := eq_true q465
                              have p25 : 0 ≤ ((ji22) : Int) := of_decide_eq_true (by first | (with_reducible assumption) | assumption)
                              have q25 : (ji22) < (10 : Int) := of_decide_eq_true (by first | (with_reducible assumption) | assumption)
                              have hx25 := bt_at (⟨#[97, 98, 99, 122, 48, 49, 56, 57, 88, 89]⟩ : ByteArray) (ji22)
                              replace p25 := eq_true p25
                              replace q25 := eq_true q25
                              go_wp2_with (first | ((with_reducible refine gate_dst (N := 48) rfl ?_); (try (refine gate_guard (by rfl) ?_; dsimp only)); refine Kd.R_lit (Kd.int .u8) _ 5 ?hg (N := 48) ?hd (xs := ([bt (⟨#[97, 98, 99, 122, 48, 49, 56, 57, 88, 89]⟩ : ByteArray) (ji22)] : List Int)) (inner := [.int .u8 (bt (⟨#[97, 98, 99, 122, 48, 49, 56, 57, 88, 89]⟩ : ByteArray) (ji22))]) (ok := fun _ => True) (okp := fun _ => True) ?hr ?hp (fun _ hk => hk) trivial (Below.refl _ _) (Nat.le_refl _) (by simp) ?_; (case hd => rfl); (case hg => rfl); (case hr => first | (go_simp; done) | (go_simp; rfl)); (case hp => exact (Reps.one (show Kd.M (Kd.int .u8) _ _ _ (bt (⟨#[97, 98, 99, 122, 48, 49, 56, 57, 88, 89]⟩ : ByteArray) (ji22)) [.int .u8 (bt (⟨#[97, 98, 99, 122, 48, 49, 56, 57, 88, 89]⟩ : ByteArray) (ji22))] from rfl) (Reps.none _ _))); intro v467 w28 ho29 hb hg_ hnew_; clear hg_ hnew_; (first | rw [← Ny466.out] at ho29 | (simp only [Int.reduceToNat] at ho29; rw [← Ny466.out] at ho29)); have n0_ := Aside0.mk (Kd.R_lower ho29 (below_size (by repeat (first | (with_reducible first | exact HB.out | apply below_alloc | apply pw_below_drewN | apply below_drew1) | exact HB.out)))); have n1_ := Aside0.mk (below_step (by repeat (first | (with_reducible first | exact HB.out | apply below_alloc | apply pw_below_drewN | apply below_drew1) | exact HB.out)) hb); clear HB; have HO468 := n0_; have HB := n1_; clear n0_ n1_; clear hb ho29; have hcv30 := own_string (P := Try.prog) Try.underlying22 Try.underlying5 Try.underlying9 (Kd.own_of_R HO468.out)))
                              go_roundg k1
                              case measure => have := HK1.out; omega
                              case rel => exact ⟨(x11_1 ++ (strOfNums y466)), (x12_1 ++ (strOfNums y466)), (wrap64 (x13_1 + 1)), (by first | rfl | (simp; done) | (simp [*]; done)), (by first | rfl | (simp; done) | (simp [*]; done)), (by first | rfl | (simp; done) | (simp [*]; done)), H', ⟨by have := HK1.out; omega⟩, ⟨by repeat (first | (with_reducible first | exact HB.out | apply below_alloc | apply pw_below_drewN | apply below_drew1) | exact HB.out)⟩⟩
                            · rw [if_neg c27] at H
                              exact absurd H (by simp)
                          · rw [if_neg c26] at H
                            exact absurd H (by simp)
                        · rw [if_neg c24] at H
                          exact absurd H (by simp)
                      · rw [if_neg c23] at H
                        exact absurd H (by simp)
                    · rw [if_neg c21] at H
                      exact absurd H (by simp)
                  · rw [if_neg c20] at H
                    have c20b0 : decide (x13_1 < 20) = false := decide_eq_false c20
                    clear c20
                    by_cases c31 : (rdOf ByteArray.empty y457 (ji6)).size + (rdOf ByteArray.empty y461 (ji9)).size ≤ 9223372036854775807
                    · rw [if_pos c31] at H
                      have c31b0 := eq_true c31
                      have c31b1 : decide ((rdOf ByteArray.empty y457 (ji6)).size + (rdOf ByteArray.empty y461 (ji9)).size ≤ 9223372036854775807) = true := decide_eq_true c31
                      try have c31b2 : (9223372036854775807 < (rdOf ByteArray.empty y457 (ji6)).size + (rdOf ByteArray.empty y461 (ji9)).size) = False := eq_false (Nat.not_lt.2 c31)
                      by_cases c32 : ((rdOf ByteArray.empty y457 (ji6)) ++ (rdOf ByteArray.empty y461 (ji9))).size + x11_1.size ≤ 9223372036854775807
                      · rw [if_pos c32] at H
                        have c32b0 := eq_true c32
                        have c32b1 : decide (((rdOf ByteArray.empty y457 (ji6)) ++ (rdOf ByteArray.empty y461 (ji9))).size + x11_1.size ≤ 9223372036854775807) = true := decide_eq_true c32
                        try have c32b2 : (9223372036854775807 < ((rdOf ByteArray.empty y457 (ji6)) ++ (rdOf ByteArray.empty y461 (ji9))).size + x11_1.size) = False := eq_false (Nat.not_lt.2 c32)
                        by_cases c33 : (((rdOf ByteArray.empty y457 (ji6)) ++ (rdOf ByteArray.empty y461 (ji9))) ++ x11_1).size + (rdOf ByteArray.empty y461 (ji9)).size ≤ 9223372036854775807
                        · rw [if_pos c33] at H
                          have c33b0 := eq_true c33
                          have c33b1 : decide ((((rdOf ByteArray.empty y457 (ji6)) ++ (rdOf ByteArray.empty y461 (ji9))) ++ x11_1).size + (rdOf ByteArray.empty y461 (ji9)).size ≤ 9223372036854775807) = true := decide_eq_true c33
                          try have c33b2 : (9223372036854775807 < (((rdOf ByteArray.empty y457 (ji6)) ++ (rdOf ByteArray.empty y461 (ji9))) ++ x11_1).size + (rdOf ByteArray.empty y461 (ji9)).size) = False := eq_false (Nat.not_lt.2 c33)
                          by_cases c34 : ((((rdOf ByteArray.empty y457 (ji6)) ++ (rdOf ByteArray.empty y461 (ji9))) ++ x11_1) ++ (rdOf ByteArray.empty y461 (ji9))).size + x12_1.size ≤ 9223372036854775807
                          · rw [if_pos c34] at H
                            have c34b0 := eq_true c34
                            have c34b1 : decide (((((rdOf ByteArray.empty y457 (ji6)) ++ (rdOf ByteArray.empty y461 (ji9))) ++ x11_1) ++ (rdOf ByteArray.empty y461 (ji9))).size + x12_1.size ≤ 9223372036854775807) = true := decide_eq_true c34
                            try have c34b2 : (9223372036854775807 < ((((rdOf ByteArray.empty y457 (ji6)) ++ (rdOf ByteArray.empty y461 (ji9))) ++ x11_1) ++ (rdOf ByteArray.empty y461 (ji9))).size + x12_1.size) = False := eq_false (Nat.not_lt.2 c34)
                            by_cases c35 : (((((rdOf ByteArray.empty y457 (ji6)) ++ (rdOf ByteArray.empty y461 (ji9))) ++ x11_1) ++ (rdOf ByteArray.empty y461 (ji9))) ++ x12_1).size + (rdOf ByteArray.empty y461 (ji9)).size ≤ 9223372036854775807
                            · rw [if_pos c35] at H
                              have c35b0 := eq_true c35
                              have c35b1 : decide ((((((rdOf ByteArray.empty y457 (ji6)) ++ (rdOf ByteArray.empty y461 (ji9))) ++ x11_1) ++ (rdOf ByteArray.empty y461 (ji9))) ++ x12_1).size + (rdOf ByteArray.empty y461 (ji9)).size ≤ 9223372036854775807) = true := decide_eq_true c35
                              try have c35b2 : (9223372036854775807 < (((((rdOf ByteArray.empty y457 (ji6)) ++ (rdOf ByteArray.empty y461 (ji9))) ++ x11_1) ++ (rdOf ByteArray.empty y461 (ji9))) ++ x12_1).size + (rdOf ByteArray.empty y461 (ji9)).size) = False := eq_false (Nat.not_lt.2 c35)
                              replace H := Option.bind_eq_some_iff.mp H
                              obtain ⟨⟨t469, t470, t471⟩, A360, H⟩ := H
                              replace H : (if true = true then (if t471 = 0 then (if t470 = (wrap64 ((wrap64 ((wrap64 (((rdOf ByteArray.empty y457 (ji6)).size : Int) + 3)) + (x11_1.size : Int))) + (x12_1.size : Int))) then (if (t469.length : Int) = 6 then (if 0 < (t469.length : Int) then (if ((rd_T33 t469 0).f1).toList = (rdOf ByteArray.empty y457 (ji6)).toList then (if 1 < (t469.length : Int) then (if ((rd_T33 t469 1).f1).toList = (rdOf ByteArray.empty y461 (ji9)).toList then (if 2 < (t469.length : Int) then (if ((rd_T33 t469 2).f1).toList = x11_1.toList then (if ((rd_T33 t469 2).f0) = 1 then (if 4 < (t469.length : Int) then (if ((rd_T33 t469 4).f1).toList = x12_1.toList then (if ((rd_T33 t469 4).f0) = 3 then (if 5 < (t469.length : Int) then (some (((rd_T33 t469 5).f2) == (wrap64 (t470 - 1)))) else (none)) else (none)) else (none)) else (none)) else (none)) else (none)) else (none)) else (none)) else (none)) else (none)) else (none)) else (none)) else (none)) else (none)) else (none)) = some r := H
                              have A36 := Aside0.mk A360
                              clear A360
                              by_cases c37 : true = true
                              · clear c37
                                have H1 : (if t471 = 0 then (if t470 = (wrap64 ((wrap64 ((wrap64 (((rdOf ByteArray.empty y457 (ji6)).size : Int) + 3)) + (x11_1.size : Int))) + (x12_1.size : Int))) then (if (t469.length : Int) = 6 then (if 0 < (t469.length : Int) then (if ((rd_T33 t469 0).f1).toList = (rdOf ByteArray.empty y457 (ji6)).toList then (if 1 < (t469.length : Int) then (if ((rd_T33 t469 1).f1).toList = (rdOf ByteArray.empty y461 (ji9)).toList then (if 2 < (t469.length : Int) then (if ((rd_T33 t469 2).f1).toList = x11_1.toList then (if ((rd_T33 t469 2).f0) = 1 then (if 4 < (t469.length : Int) then (if ((rd_T33 t469 4).f1).toList = x12_1.toList then (if ((rd_T33 t469 4).f0) = 3 then (if 5 < (t469.length : Int) then (some (((rd_T33 t469 5).f2) == (wrap64 (t470 - 1)))) else (none)) else (none)) else (none)) else (none)) else (none)) else (none)) else (none)) else (none)) else (none)) else (none)) else (none)) else (none)) else (none)) else (none)) = some r := by first | (rw [if_pos rfl] at H; exact H) | (rw [if_pos trivial] at H; exact H)
                                clear H
                                have H := H1
                                clear H1
                                by_cases c38 : t471 = 0
                                · rw [if_pos c38] at H
                                  have c38b0 : (t471 == 0) = true := beq_iff_eq.mpr c38
                                  have c38b1 : (t471 != 0) = false := bne_eq_false_iff_eq.mpr c38
                                  clear c38
                                  by_cases c39 : t470 = (wrap64 ((wrap64 ((wrap64 (((rdOf ByteArray.empty y457 (ji6)).size : Int) + 3)) + (x11_1.size : Int))) + (x12_1.size : Int)))
                                  · rw [if_pos c39] at H
                                    have c39b0 : (t470 == (wrap64 ((wrap64 ((wrap64 (((rdOf ByteArray.empty y457 (ji6)).size : Int) + 3)) + (x11_1.size : Int))) + (x12_1.size : Int)))) = true := beq_iff_eq.mpr c39
                                    have c39b1 : (t470 != (wrap64 ((wrap64 ((wrap64 (((rdOf ByteArray.empty y457 (ji6)).size : Int) + 3)) + (x11_1.size : Int))) + (x12_1.size : Int)))) = false := bne_eq_false_iff_eq.mpr c39
                                    clear c39
                                    by_cases c40 : (t469.length : Int) = 6
                                    · rw [if_pos c40] at H
                                      have c40b0 : ((t469.length : Int) == 6) = true := beq_iff_eq.mpr c40
                                      have c40b1 : ((t469.length : Int) != 6) = false := bne_eq_false_iff_eq.mpr c40
                                      clear c40
                                      by_cases c41 : 0 < (t469.length : Int)
                                      · rw [if_pos c41] at H
                                        have c41b0 : decide (0 < (t469.length : Int)) = true := decide_eq_true c41
                                        have c41b1 : decide (0 < t469.length) = true := decide_eq_true (by omega)
                                        clear c41
                                        by_cases c42 : ((rd_T33 t469 0).f1).toList = (rdOf ByteArray.empty y457 (ji6)).toList
                                        · rw [if_pos c42] at H
                                          have c42b0 : (((rd_T33 t469 0).f1).toList == (rdOf ByteArray.empty y457 (ji6)).toList) = true := beq_iff_eq.mpr c42
                                          have c42b1 : (((rd_T33 t469 0).f1).toList != (rdOf ByteArray.empty y457 (ji6)).toList) = false := bne_eq_false_iff_eq.mpr c42
                                          clear c42
                                          by_cases c43 : 1 < (t469.length : Int)
                                          · rw [if_pos c43] at H
                                            have c43b0 : decide (1 < (t469.length : Int)) = true := decide_eq_true c43
                                            have c43b1 : decide (1 < t469.length) = true := decide_eq_true (by omega)
                                            clear c43
                                            by_cases c44 : ((rd_T33 t469 1).f1).toList = (rdOf ByteArray.empty y461 (ji9)).toList
                                            · rw [if_pos c44] at H
                                              have c44b0 : (((rd_T33 t469 1).f1).toList == (rdOf ByteArray.empty y461 (ji9)).toList) = true := beq_iff_eq.mpr c44
                                              have c44b1 : (((rd_T33 t469 1).f1).toList != (rdOf ByteArray.empty y461 (ji9)).toList) = false := bne_eq_false_iff_eq.mpr c44
                                              clear c44
                                              by_cases c45 : 2 < (t469.length : Int)
                                              · rw [if_pos c45] at H
                                                have c45b0 : decide (2 < (t469.length : Int)) = true := decide_eq_true c45
                                                have c45b1 : decide (2 < t469.length) = true := decide_eq_true (by omega)
                                                clear c45
                                                by_cases c46 : ((rd_T33 t469 2).f1).toList = x11_1.toList
                                                · rw [if_pos c46] at H
                                                  have c46b0 : (((rd_T33 t469 2).f1).toList == x11_1.toList) = true := beq_iff_eq.mpr c46
                                                  have c46b1 : (((rd_T33 t469 2).f1).toList != x11_1.toList) = false := bne_eq_false_iff_eq.mpr c46
                                                  clear c46
                                                  by_cases c47 : ((rd_T33 t469 2).f0) = 1
                                                  · rw [if_pos c47] at H
                                                    have c47b0 : (((rd_T33 t469 2).f0) == 1) = true := beq_iff_eq.mpr c47
                                                    have c47b1 : (((rd_T33 t469 2).f0) != 1) = false := bne_eq_false_iff_eq.mpr c47
                                                    clear c47
                                                    by_cases c48 : 4 < (t469.length : Int)
                                                    · rw [if_pos c48] at H
                                                      have c48b0 : decide (4 < (t469.length : Int)) = true := decide_eq_true c48
                                                      have c48b1 : decide (4 < t469.length) = true := decide_eq_true (by omega)
                                                      clear c48
                                                      by_cases c49 : ((rd_T33 t469 4).f1).toList = x12_1.toList
                                                      · rw [if_pos c49] at H
                                                        have c49b0 : (((rd_T33 t469 4).f1).toList == x12_1.toList) = true := beq_iff_eq.mpr c49
                                                        have c49b1 : (((rd_T33 t469 4).f1).toList != x12_1.toList) = false := bne_eq_false_iff_eq.mpr c49
                                                        clear c49
                                                        by_cases c50 : ((rd_T33 t469 4).f0) = 3
                                                        · rw [if_pos c50] at H
                                                          have c50b0 : (((rd_T33 t469 4).f0) == 3) = true := beq_iff_eq.mpr c50
                                                          have c50b1 : (((rd_T33 t469 4).f0) != 3) = false := bne_eq_false_iff_eq.mpr c50
                                                          clear c50
                                                          by_cases c51 : 5 < (t469.length : Int)
                                                          · rw [if_pos c51] at H
                                                            have c51b0 : decide (5 < (t469.length : Int)) = true := decide_eq_true c51
                                                            have c51b1 : decide (5 < t469.length) = true := decide_eq_true (by omega)
                                                            clear c51
                                                            obtain rfl := Option.some.inj H
                                                            go_wp2_with (first | ((with_reducible refine gate_callee (f := 17) rfl ?_); refine goesL_ (some 68) rfl rfl Try.func17 (by kernel_rfl) rfl #[.string ((((((rdOf ByteArray.empty y457 (ji6)) ++ (rdOf ByteArray.empty y461 (ji9))) ++ x11_1) ++ (rdOf ByteArray.empty y461 (ji9))) ++ x12_1) ++ (rdOf ByteArray.empty y461 (ji9)))] rfl (by (try simp only [List.map_toArray, List.map_cons, List.map_nil]); first | done | (simp only [hji6, hji9]; rfl) | rfl | (simp only [List.length_drop, List.length_take]; rfl)) ?_; (with_reducible refine (lex_All.calls k1 ((((((rdOf ByteArray.empty y457 (ji6)) ++ (rdOf ByteArray.empty y461 (ji9))) ++ x11_1) ++ (rdOf ByteArray.empty y461 (ji9))) ++ x12_1) ++ (rdOf ByteArray.empty y461 (ji9))) t469 t470 t471 _ A36.out).mono ?_); rintro e w52 ⟨v472, rfl, ho0, hb⟩; refine ⟨_, rfl, ?_⟩; have n0_ := Aside0.mk (Kd.R_lower ho0 (below_size (by repeat (first | (with_reducible first | exact HB.out | apply below_alloc | apply pw_below_drewN | apply below_drew1) | exact HB.out)))); have n1_ := Aside0.mk (below_step (by repeat (first | (with_reducible first | exact HB.out | apply below_alloc | apply pw_below_drewN | apply below_drew1) | exact HB.out)) hb); clear HB; have HO473 := n0_; have HB := n1_; clear n0_ n1_; (try clear hb); (try clear hb2); (try clear hk); (try clear hi); (try clear ho0); obtain ⟨Ao53, co53, eo53⟩ := Kd.R_slice HO473.out; subst eo53; have p474 : 0 ≤ (0 : Int) := (by omega); have q474 : 0 < (t469.length : Int) := of_decide_eq_true (by first | (with_reducible assumption) | assumption); obtain ⟨ad474, e474, hx474_0, hx474_1, hx474_2⟩ := at_T33 (Kd.R_reads' HO473.out).2.2 0 p474 q474; cases e474; have qi474 : (0 < t469.length) = True := eq_true (by omega); (try rw [show ((0 : Int)).toNat = 0 from rfl] at hx474_0); (try rw [show 0 * 3 = 0 from rfl] at hx474_0); (try rw [Addr.add_zero'] at hx474_0); (try rw [show ((0 : Int)).toNat = 0 from rfl] at hx474_1); (try rw [show 0 * 3 = 0 from rfl] at hx474_1); (try rw [Addr.add_zero'] at hx474_1); (try rw [show ((0 : Int)).toNat = 0 from rfl] at hx474_2); (try rw [show 0 * 3 = 0 from rfl] at hx474_2); (try rw [Addr.add_zero'] at hx474_2); replace p474 := eq_true p474; replace q474 := eq_true q474; have p475 : 0 ≤ (1 : Int) := (by omega); have q475 : 1 < (t469.length : Int) := of_decide_eq_true (by first | (with_reducible assumption) | assumption); obtain ⟨ad475, e475, hx475_0, hx475_1, hx475_2⟩ := at_T33 (Kd.R_reads' HO473.out).2.2 1 p475 q475; obtain rfl : ad474 = ad475 := (by injection e475); (try simp only [show (1 : Int).toNat = 1 from rfl, Nat.reduceMul, Nat.reduceEqDiff, Go.Addr.add, ↓reduceIte] at hx475_0); (try simp only [show (1 : Int).toNat = 1 from rfl, Nat.reduceMul, Nat.reduceEqDiff, Go.Addr.add, ↓reduceIte] at hx475_1); (try simp only [show (1 : Int).toNat = 1 from rfl, Nat.reduceMul, Nat.reduceEqDiff, Go.Addr.add, ↓reduceIte] at hx475_2); have qi475 : (1 < t469.length) = True := eq_true (by omega); (try rw [show ((1 : Int)).toNat = 1 from rfl] at hx475_0); (try rw [show 1 * 3 = 3 from rfl] at hx475_0); (try rw [show ((1 : Int)).toNat = 1 from rfl] at hx475_1); (try rw [show 1 * 3 = 3 from rfl] at hx475_1); (try rw [show ((1 : Int)).toNat = 1 from rfl] at hx475_2); (try rw [show 1 * 3 = 3 from rfl] at hx475_2); replace p475 := eq_true p475; replace q475 := eq_true q475; have p476 : 0 ≤ (2 : Int) := (by omega); have q476 : 2 < (t469.length : Int) := of_decide_eq_true (by first | (with_reducible assumption) | assumption); obtain ⟨ad476, e476, hx476_0, hx476_1, hx476_2⟩ := at_T33 (Kd.R_reads' HO473.out).2.2 2 p476 q476; obtain rfl : ad474 = ad476 := (by injection e476); (try simp only [show (2 : Int).toNat = 2 from rfl, Nat.reduceMul, Nat.reduceEqDiff, Go.Addr.add, ↓reduceIte] at hx476_0); (try simp only [show (2 : Int).toNat = 2 from rfl, Nat.reduceMul, Nat.reduceEqDiff, Go.Addr.add, ↓reduceIte] at hx476_1); (try simp only [show (2 : Int).toNat = 2 from rfl, Nat.reduceMul, Nat.reduceEqDiff, Go.Addr.add, ↓reduceIte] at hx476_2); have qi476 : (2 < t469.length) = True := eq_true (by omega); (try rw [show ((2 : Int)).toNat = 2 from rfl] at hx476_0); (try rw [show 2 * 3 = 6 from rfl] at hx476_0); (try rw [show ((2 : Int)).toNat = 2 from rfl] at hx476_1); (try rw [show 2 * 3 = 6 from rfl] at hx476_1); (try rw [show ((2 : Int)).toNat = 2 from rfl] at hx476_2); (try rw [show 2 * 3 = 6 from rfl] at hx476_2); replace p476 := eq_true p476; replace q476 := eq_true q476; have p477 : 0 ≤ (2 : Int) := (by omega); have q477 : 2 < (t469.length : Int) := of_decide_eq_true (by first | (with_reducible assumption) | assumption); obtain ⟨ad477, e477, hx477_0, hx477_1, hx477_2⟩ := at_T33 (Kd.R_reads' HO473.out).2.2 2 p477 q477; obtain rfl : ad474 = ad477 := (by injection e477); (try simp only [show (2 : Int).toNat = 2 from rfl, Nat.reduceMul, Nat.reduceEqDiff, Go.Addr.add, ↓reduceIte] at hx477_0); (try simp only [show (2 : Int).toNat = 2 from rfl, Nat.reduceMul, Nat.reduceEqDiff, Go.Addr.add, ↓reduceIte] at hx477_1); (try simp only [show (2 : Int).toNat = 2 from rfl, Nat.reduceMul, Nat.reduceEqDiff, Go.Addr.add, ↓reduceIte] at hx477_2); have qi477 : (2 < t469.length) = True := eq_true (by omega); (try rw [show ((2 : Int)).toNat = 2 from rfl] at hx477_0); (try rw [show 2 * 3 = 6 from rfl] at hx477_0); (try rw [show ((2 : Int)).toNat = 2 from rfl] at hx477_1); (try rw [show 2 * 3 = 6 from rfl] at hx477_1); (try rw [show ((2 : Int)).toNat = 2 from rfl] at hx477_2); (try rw [show 2 * 3 = 6 from rfl] at hx477_2); replace p477 := eq_true p477; replace q477 := eq_true q477; have p478 : 0 ≤ (4 : Int) := (by omega); have q478 : 4 < (t469.length : Int) := of_decide_eq_true (by first | (with_reducible assumption) | assumption); obtain ⟨ad478, e478, hx478_0, hx478_1, hx478_2⟩ := at_T33 (Kd.R_reads' HO473.out).2.2 4 p478 q478; obtain rfl : ad474 = ad478 := (by injection e478); (try simp only [show (4 : Int).toNat = 4 from rfl, Nat.reduceMul, Nat.reduceEqDiff, Go.Addr.add, ↓reduceIte] at hx478_0); (try simp only [show (4 : Int).toNat = 4 from rfl, Nat.reduceMul, Nat.reduceEqDiff, Go.Addr.add, ↓reduceIte] at hx478_1); (try simp only [show (4 : Int).toNat = 4 from rfl, Nat.reduceMul, Nat.reduceEqDiff, Go.Addr.add, ↓reduceIte] at hx478_2); have qi478 : (4 < t469.length) = True := eq_true (by omega); (try rw [show ((4 : Int)).toNat = 4 from rfl] at hx478_0); (try rw [show 4 * 3 = 12 from rfl] at hx478_0); (try rw [show ((4 : Int)).toNat = 4 from rfl] at hx478_1); (try rw [show 4 * 3 = 12 from rfl] at hx478_1); (try rw [show ((4 : Int)).toNat = 4 from rfl] at hx478_2); (try rw [show 4 * 3 = 12 from rfl] at hx478_2); replace p478 := eq_true p478; replace q478 := eq_true q478; have p479 : 0 ≤ (4 : Int) := (by omega); have q479 : 4 < (t469.length : Int) := of_decide_eq_true (by first | (with_reducible assumption) | assumption); obtain ⟨ad479, e479, hx479_0, hx479_1, hx479_2⟩ := at_T33 (Kd.R_reads' HO473.out).2.2 4 p479 q479; obtain rfl : ad474 = ad479 := (by injection e479); (try simp only [show (4 : Int).toNat = 4 from rfl, Nat.reduceMul, Nat.reduceEqDiff, Go.Addr.add, ↓reduceIte] at hx479_0); (try simp only [show (4 : Int).toNat = 4 from rfl, Nat.reduceMul, Nat.reduceEqDiff, Go.Addr.add, ↓reduceIte] at hx479_1); (try simp only [show (4 : Int).toNat = 4 from rfl, Nat.reduceMul, Nat.reduceEqDiff, Go.Addr.add, ↓reduceIte] at hx479_2); have qi479 : (4 < t469.length) = True := eq_true (by omega); (try rw [show ((4 : Int)).toNat = 4 from rfl] at hx479_0); (try rw [show 4 * 3 = 12 from rfl] at hx479_0); (try rw [show ((4 : Int)).toNat = 4 from rfl] at hx479_1); (try rw [show 4 * 3 = 12 from rfl] at hx479_1); (try rw [show ((4 : Int)).toNat = 4 from rfl] at hx479_2); (try rw [show 4 * 3 = 12 from rfl] at hx479_2); replace p479 := eq_true p479; replace q479 := eq_true q479; have p480 : 0 ≤ (5 : Int) := (by omega); have q480 : 5 < (t469.length : Int) := of_decide_eq_true (by first | (with_reducible assumption) | assumption); obtain ⟨ad480, e480, hx480_0, hx480_1, hx480_2⟩ := at_T33 (Kd.R_reads' HO473.out).2.2 5 p480 q480; obtain rfl : ad474 = ad480 := (by injection e480); (try simp only [show (5 : Int).toNat = 5 from rfl, Nat.reduceMul, Nat.reduceEqDiff, Go.Addr.add, ↓reduceIte] at hx480_0); (try simp only [show (5 : Int).toNat = 5 from rfl, Nat.reduceMul, Nat.reduceEqDiff, Go.Addr.add, ↓reduceIte] at hx480_1); (try simp only [show (5 : Int).toNat = 5 from rfl, Nat.reduceMul, Nat.reduceEqDiff, Go.Addr.add, ↓reduceIte] at hx480_2); have qi480 : (5 < t469.length) = True := eq_true (by omega); (try rw [show ((5 : Int)).toNat = 5 from rfl] at hx480_0); (try rw [show 5 * 3 = 15 from rfl] at hx480_0); (try rw [show ((5 : Int)).toNat = 5 from rfl] at hx480_1); (try rw [show 5 * 3 = 15 from rfl] at hx480_1); (try rw [show ((5 : Int)).toNat = 5 from rfl] at hx480_2); (try rw [show 5 * 3 = 15 from rfl] at hx480_2); replace p480 := eq_true p480; replace q480 := eq_true q480))
                                                            go_ret
                                                            exact ⟨by first | rfl | (simp [errW_none, errW_some] <;> rfl) | (simp only [← hji6, ← hji9]; first | rfl | (simp [errW_none, errW_some] <;> rfl)) | (simp [*, errW_none, errW_some] <;> rfl), by repeat (first | (with_reducible first | exact HB.out | apply below_alloc | apply pw_below_drewN | apply below_drew1) | exact HB.out)⟩
                                                          · rw [if_neg c51] at H
                                                            exact absurd H (by simp)
                                                        · rw [if_neg c50] at H
                                                          exact absurd H (by simp)
                                                      · rw [if_neg c49] at H
                                                        exact absurd H (by simp)
                                                    · rw [if_neg c48] at H
                                                      exact absurd H (by simp)
                                                  · rw [if_neg c47] at H
                                                    exact absurd H (by simp)
                                                · rw [if_neg c46] at H
                                                  exact absurd H (by simp)
                                              · rw [if_neg c45] at H
                                                exact absurd H (by simp)
                                            · rw [if_neg c44] at H
                                              exact absurd H (by simp)
                                          · rw [if_neg c43] at H
                                            exact absurd H (by simp)
                                        · rw [if_neg c42] at H
                                          exact absurd H (by simp)
                                      · rw [if_neg c41] at H
                                        exact absurd H (by simp)
                                    · rw [if_neg c40] at H
                                      exact absurd H (by simp)
                                  · rw [if_neg c39] at H
                                    exact absurd H (by simp)
                                · rw [if_neg c38] at H
                                  exact absurd H (by simp)
                              · exact absurd rfl c37
                            · rw [if_neg c35] at H
                              exact absurd H (by simp)
                          · rw [if_neg c34] at H
                            exact absurd H (by simp)
                        · rw [if_neg c33] at H
                          exact absurd H (by simp)
                      · rw [if_neg c32] at H
                        exact absurd H (by simp)
                    · rw [if_neg c31] at H
                      exact absurd H (by simp)
                · rw [if_neg c19] at H
                  have c19b0 : decide (x13_1 < (l2.length : Int)) = false := decide_eq_false c19
                  clear c19
                  by_cases c54 : (rdOf ByteArray.empty y457 (ji6)).size + (rdOf ByteArray.empty y461 (ji9)).size ≤ 9223372036854775807
                  · rw [if_pos c54] at H
                    have c54b0 := eq_true c54
                    have c54b1 : decide ((rdOf ByteArray.empty y457 (ji6)).size + (rdOf ByteArray.empty y461 (ji9)).size ≤ 9223372036854775807) = true := decide_eq_true c54
                    try have c54b2 : (9223372036854775807 < (rdOf ByteArray.empty y457 (ji6)).size + (rdOf ByteArray.empty y461 (ji9)).size) = False := eq_false (Nat.not_lt.2 c54)
                    by_cases c55 : ((rdOf ByteArray.empty y457 (ji6)) ++ (rdOf ByteArray.empty y461 (ji9))).size + x11_1.size ≤ 9223372036854775807
                    · rw [if_pos c55] at H
                      have c55b0 := eq_true c55
                      have c55b1 : decide (((rdOf ByteArray.empty y457 (ji6)) ++ (rdOf ByteArray.empty y461 (ji9))).size + x11_1.size ≤ 9223372036854775807) = true := decide_eq_true c55
                      try have c55b2 : (9223372036854775807 < ((rdOf ByteArray.empty y457 (ji6)) ++ (rdOf ByteArray.empty y461 (ji9))).size + x11_1.size) = False := eq_false (Nat.not_lt.2 c55)
                      by_cases c56 : (((rdOf ByteArray.empty y457 (ji6)) ++ (rdOf ByteArray.empty y461 (ji9))) ++ x11_1).size + (rdOf ByteArray.empty y461 (ji9)).size ≤ 9223372036854775807
                      · rw [if_pos c56] at H
                        have c56b0 := eq_true c56
                        have c56b1 : decide ((((rdOf ByteArray.empty y457 (ji6)) ++ (rdOf ByteArray.empty y461 (ji9))) ++ x11_1).size + (rdOf ByteArray.empty y461 (ji9)).size ≤ 9223372036854775807) = true := decide_eq_true c56
                        try have c56b2 : (9223372036854775807 < (((rdOf ByteArray.empty y457 (ji6)) ++ (rdOf ByteArray.empty y461 (ji9))) ++ x11_1).size + (rdOf ByteArray.empty y461 (ji9)).size) = False := eq_false (Nat.not_lt.2 c56)
                        by_cases c57 : ((((rdOf ByteArray.empty y457 (ji6)) ++ (rdOf ByteArray.empty y461 (ji9))) ++ x11_1) ++ (rdOf ByteArray.empty y461 (ji9))).size + x12_1.size ≤ 9223372036854775807
                        · rw [if_pos c57] at H
                          have c57b0 := eq_true c57
                          have c57b1 : decide (((((rdOf ByteArray.empty y457 (ji6)) ++ (rdOf ByteArray.empty y461 (ji9))) ++ x11_1) ++ (rdOf ByteArray.empty y461 (ji9))).size + x12_1.size ≤ 9223372036854775807) = true := decide_eq_true c57
                          try have c57b2 : (9223372036854775807 < ((((rdOf ByteArray.empty y457 (ji6)) ++ (rdOf ByteArray.empty y461 (ji9))) ++ x11_1) ++ (rdOf ByteArray.empty y461 (ji9))).size + x12_1.size) = False := eq_false (Nat.not_lt.2 c57)
                          by_cases c58 : (((((rdOf ByteArray.empty y457 (ji6)) ++ (rdOf ByteArray.empty y461 (ji9))) ++ x11_1) ++ (rdOf ByteArray.empty y461 (ji9))) ++ x12_1).size + (rdOf ByteArray.empty y461 (ji9)).size ≤ 9223372036854775807
                          · rw [if_pos c58] at H
                            have c58b0 := eq_true c58
                            have c58b1 : decide ((((((rdOf ByteArray.empty y457 (ji6)) ++ (rdOf ByteArray.empty y461 (ji9))) ++ x11_1) ++ (rdOf ByteArray.empty y461 (ji9))) ++ x12_1).size + (rdOf ByteArray.empty y461 (ji9)).size ≤ 9223372036854775807) = true := decide_eq_true c58
                            try have c58b2 : (9223372036854775807 < (((((rdOf ByteArray.empty y457 (ji6)) ++ (rdOf ByteArray.empty y461 (ji9))) ++ x11_1) ++ (rdOf ByteArray.empty y461 (ji9))) ++ x12_1).size + (rdOf ByteArray.empty y461 (ji9)).size) = False := eq_false (Nat.not_lt.2 c58)
                            replace H := Option.bind_eq_some_iff.mp H
                            obtain ⟨⟨t481, t482, t483⟩, A590, H⟩ := H
                            replace H : (if true = true then (if t483 = 0 then (if t482 = (wrap64 ((wrap64 ((wrap64 (((rdOf ByteArray.empty y457 (ji6)).size : Int) + 3)) + (x11_1.size : Int))) + (x12_1.size : Int))) then (if (t481.length : Int) = 6 then (if 0 < (t481.length : Int) then (if ((rd_T33 t481 0).f1).toList = (rdOf ByteArray.empty y457 (ji6)).toList then (if 1 < (t481.length : Int) then (if ((rd_T33 t481 1).f1).toList = (rdOf ByteArray.empty y461 (ji9)).toList then (if 2 < (t481.length : Int) then (if ((rd_T33 t481 2).f1).toList = x11_1.toList then (if ((rd_T33 t481 2).f0) = 1 then (if 4 < (t481.length : Int) then (if ((rd_T33 t481 4).f1).toList = x12_1.toList then (if ((rd_T33 t481 4).f0) = 3 then (if 5 < (t481.length : Int) then (some (((rd_T33 t481 5).f2) == (wrap64 (t482 - 1)))) else (none)) else (none)) else (none)) else (none)) else (none)) else (none)) else (none)) else (none)) else (none)) else (none)) else (none)) else (none)) else (none)) else (none)) else (none)) = some r := H
                            have A59 := Aside0.mk A590
                            clear A590
                            by_cases c60 : true = true
                            · clear c60
                              have H1 : (if t483 = 0 then (if t482 = (wrap64 ((wrap64 ((wrap64 (((rdOf ByteArray.empty y457 (ji6)).size : Int) + 3)) + (x11_1.size : Int))) + (x12_1.size : Int))) then (if (t481.length : Int) = 6 then (if 0 < (t481.length : Int) then (if ((rd_T33 t481 0).f1).toList = (rdOf ByteArray.empty y457 (ji6)).toList then (if 1 < (t481.length : Int) then (if ((rd_T33 t481 1).f1).toList = (rdOf ByteArray.empty y461 (ji9)).toList then (if 2 < (t481.length : Int) then (if ((rd_T33 t481 2).f1).toList = x11_1.toList then (if ((rd_T33 t481 2).f0) = 1 then (if 4 < (t481.length : Int) then (if ((rd_T33 t481 4).f1).toList = x12_1.toList then (if ((rd_T33 t481 4).f0) = 3 then (if 5 < (t481.length : Int) then (some (((rd_T33 t481 5).f2) == (wrap64 (t482 - 1)))) else (none)) else (none)) else (none)) else (none)) else (none)) else (none)) else (none)) else (none)) else (none)) else (none)) else (none)) else (none)) else (none)) else (none)) = some r := by first | (rw [if_pos rfl] at H; exact H) | (rw [if_pos trivial] at H; exact H)
                              clear H
                              have H := H1
                              clear H1
                              by_cases c61 : t483 = 0
                              · rw [if_pos c61] at H
                                have c61b0 : (t483 == 0) = true := beq_iff_eq.mpr c61
                                have c61b1 : (t483 != 0) = false := bne_eq_false_iff_eq.mpr c61
                                clear c61
                                by_cases c62 : t482 = (wrap64 ((wrap64 ((wrap64 (((rdOf ByteArray.empty y457 (ji6)).size : Int) + 3)) + (x11_1.size : Int))) + (x12_1.size : Int)))
                                · rw [if_pos c62] at H
                                  have c62b0 : (t482 == (wrap64 ((wrap64 ((wrap64 (((rdOf ByteArray.empty y457 (ji6)).size : Int) + 3)) + (x11_1.size : Int))) + (x12_1.size : Int)))) = true := beq_iff_eq.mpr c62
                                  have c62b1 : (t482 != (wrap64 ((wrap64 ((wrap64 (((rdOf ByteArray.empty y457 (ji6)).size : Int) + 3)) + (x11_1.size : Int))) + (x12_1.size : Int)))) = false := bne_eq_false_iff_eq.mpr c62
                                  clear c62
                                  by_cases c63 : (t481.length : Int) = 6
                                  · rw [if_pos c63] at H
                                    have c63b0 : ((t481.length : Int) == 6) = true := beq_iff_eq.mpr c63
                                    have c63b1 : ((t481.length : Int) != 6) = false := bne_eq_false_iff_eq.mpr c63
                                    clear c63
                                    by_cases c64 : 0 < (t481.length : Int)
                                    · rw [if_pos c64] at H
                                      have c64b0 : decide (0 < (t481.length : Int)) = true := decide_eq_true c64
                                      have c64b1 : decide (0 < t481.length) = true := decide_eq_true (by omega)
                                      clear c64
                                      by_cases c65 : ((rd_T33 t481 0).f1).toList = (rdOf ByteArray.empty y457 (ji6)).toList
                                      · rw [if_pos c65] at H
                                        have c65b0 : (((rd_T33 t481 0).f1).toList == (rdOf ByteArray.empty y457 (ji6)).toList) = true := beq_iff_eq.mpr c65
                                        have c65b1 : (((rd_T33 t481 0).f1).toList != (rdOf ByteArray.empty y457 (ji6)).toList) = false := bne_eq_false_iff_eq.mpr c65
                                        clear c65
                                        by_cases c66 : 1 < (t481.length : Int)
                                        · rw [if_pos c66] at H
                                          have c66b0 : decide (1 < (t481.length : Int)) = true := decide_eq_true c66
                                          have c66b1 : decide (1 < t481.length) = true := decide_eq_true (by omega)
                                          clear c66
                                          by_cases c67 : ((rd_T33 t481 1).f1).toList = (rdOf ByteArray.empty y461 (ji9)).toList
                                          · rw [if_pos c67] at H
                                            have c67b0 : (((rd_T33 t481 1).f1).toList == (rdOf ByteArray.empty y461 (ji9)).toList) = true := beq_iff_eq.mpr c67
                                            have c67b1 : (((rd_T33 t481 1).f1).toList != (rdOf ByteArray.empty y461 (ji9)).toList) = false := bne_eq_false_iff_eq.mpr c67
                                            clear c67
                                            by_cases c68 : 2 < (t481.length : Int)
                                            · rw [if_pos c68] at H
                                              have c68b0 : decide (2 < (t481.length : Int)) = true := decide_eq_true c68
                                              have c68b1 : decide (2 < t481.length) = true := decide_eq_true (by omega)
                                              clear c68
                                              by_cases c69 : ((rd_T33 t481 2).f1).toList = x11_1.toList
                                              · rw [if_pos c69] at H
                                                have c69b0 : (((rd_T33 t481 2).f1).toList == x11_1.toList) = true := beq_iff_eq.mpr c69
                                                have c69b1 : (((rd_T33 t481 2).f1).toList != x11_1.toList) = false := bne_eq_false_iff_eq.mpr c69
                                                clear c69
                                                by_cases c70 : ((rd_T33 t481 2).f0) = 1
                                                · rw [if_pos c70] at H
                                                  have c70b0 : (((rd_T33 t481 2).f0) == 1) = true := beq_iff_eq.mpr c70
                                                  have c70b1 : (((rd_T33 t481 2).f0) != 1) = false := bne_eq_false_iff_eq.mpr c70
                                                  clear c70
                                                  by_cases c71 : 4 < (t481.length : Int)
                                                  · rw [if_pos c71] at H
                                                    have c71b0 : decide (4 < (t481.length : Int)) = true := decide_eq_true c71
                                                    have c71b1 : decide (4 < t481.length) = true := decide_eq_true (by omega)
                                                    clear c71
                                                    by_cases c72 : ((rd_T33 t481 4).f1).toList = x12_1.toList
                                                    · rw [if_pos c72] at H
                                                      have c72b0 : (((rd_T33 t481 4).f1).toList == x12_1.toList) = true := beq_iff_eq.mpr c72
                                                      have c72b1 : (((rd_T33 t481 4).f1).toList != x12_1.toList) = false := bne_eq_false_iff_eq.mpr c72
                                                      clear c72
                                                      by_cases c73 : ((rd_T33 t481 4).f0) = 3
                                                      · rw [if_pos c73] at H
                                                        have c73b0 : (((rd_T33 t481 4).f0) == 3) = true := beq_iff_eq.mpr c73
                                                        have c73b1 : (((rd_T33 t481 4).f0) != 3) = false := bne_eq_false_iff_eq.mpr c73
                                                        clear c73
                                                        by_cases c74 : 5 < (t481.length : Int)
                                                        · rw [if_pos c74] at H
                                                          have c74b0 : decide (5 < (t481.length : Int)) = true := decide_eq_true c74
                                                          have c74b1 : decide (5 < t481.length) = true := decide_eq_true (by omega)
                                                          clear c74
                                                          obtain rfl := Option.some.inj H
                                                          go_wp2_with (first | ((with_reducible refine gate_callee (f := 17) rfl ?_); refine goesL_ (some 68) rfl rfl Try.func17 (by kernel_rfl) rfl #[.string ((((((rdOf ByteArray.empty y457 (ji6)) ++ (rdOf ByteArray.empty y461 (ji9))) ++ x11_1) ++ (rdOf ByteArray.empty y461 (ji9))) ++ x12_1) ++ (rdOf ByteArray.empty y461 (ji9)))] rfl (by (try simp only [List.map_toArray, List.map_cons, List.map_nil]); first | done | (simp only [hji6, hji9]; rfl) | rfl | (simp only [List.length_drop, List.length_take]; rfl)) ?_; (with_reducible refine (lex_All.calls k1 ((((((rdOf ByteArray.empty y457 (ji6)) ++ (rdOf ByteArray.empty y461 (ji9))) ++ x11_1) ++ (rdOf ByteArray.empty y461 (ji9))) ++ x12_1) ++ (rdOf ByteArray.empty y461 (ji9))) t481 t482 t483 _ A59.out).mono ?_); rintro e w75 ⟨v484, rfl, ho0, hb⟩; refine ⟨_, rfl, ?_⟩; have n0_ := Aside0.mk (Kd.R_lower ho0 (below_size (by repeat (first | (with_reducible first | exact HB.out | apply below_alloc | apply pw_below_drewN | apply below_drew1) | exact HB.out)))); have n1_ := Aside0.mk (below_step (by repeat (first | (with_reducible first | exact HB.out | apply below_alloc | apply pw_below_drewN | apply below_drew1) | exact HB.out)) hb); clear HB; have HO485 := n0_; have HB := n1_; clear n0_ n1_; (try clear hb); (try clear hb2); (try clear hk); (try clear hi); (try clear ho0); obtain ⟨Ao76, co76, eo76⟩ := Kd.R_slice HO485.out; subst eo76; have p486 : 0 ≤ (0 : Int) := (by omega); have q486 : 0 < (t481.length : Int) := of_decide_eq_true (by first | (with_reducible assumption) | assumption); obtain ⟨ad486, e486, hx486_0, hx486_1, hx486_2⟩ := at_T33 (Kd.R_reads' HO485.out).2.2 0 p486 q486; cases e486; have qi486 : (0 < t481.length) = True := eq_true (by omega); (try rw [show ((0 : Int)).toNat = 0 from rfl] at hx486_0); (try rw [show 0 * 3 = 0 from rfl] at hx486_0); (try rw [Addr.add_zero'] at hx486_0); (try rw [show ((0 : Int)).toNat = 0 from rfl] at hx486_1); (try rw [show 0 * 3 = 0 from rfl] at hx486_1); (try rw [Addr.add_zero'] at hx486_1); (try rw [show ((0 : Int)).toNat = 0 from rfl] at hx486_2); (try rw [show 0 * 3 = 0 from rfl] at hx486_2); (try rw [Addr.add_zero'] at hx486_2); replace p486 := eq_true p486; replace q486 := eq_true q486; have p487 : 0 ≤ (1 : Int) := (by omega); have q487 : 1 < (t481.length : Int) := of_decide_eq_true (by first | (with_reducible assumption) | assumption); obtain ⟨ad487, e487, hx487_0, hx487_1, hx487_2⟩ := at_T33 (Kd.R_reads' HO485.out).2.2 1 p487 q487; obtain rfl : ad486 = ad487 := (by injection e487); (try simp only [show (1 : Int).toNat = 1 from rfl, Nat.reduceMul, Nat.reduceEqDiff, Go.Addr.add, ↓reduceIte] at hx487_0); (try simp only [show (1 : Int).toNat = 1 from rfl, Nat.reduceMul, Nat.reduceEqDiff, Go.Addr.add, ↓reduceIte] at hx487_1); (try simp only [show (1 : Int).toNat = 1 from rfl, Nat.reduceMul, Nat.reduceEqDiff, Go.Addr.add, ↓reduceIte] at hx487_2); have qi487 : (1 < t481.length) = True := eq_true (by omega); (try rw [show ((1 : Int)).toNat = 1 from rfl] at hx487_0); (try rw [show 1 * 3 = 3 from rfl] at hx487_0); (try rw [show ((1 : Int)).toNat = 1 from rfl] at hx487_1); (try rw [show 1 * 3 = 3 from rfl] at hx487_1); (try rw [show ((1 : Int)).toNat = 1 from rfl] at hx487_2); (try rw [show 1 * 3 = 3 from rfl] at hx487_2); replace p487 := eq_true p487; replace q487 := eq_true q487; have p488 : 0 ≤ (2 : Int) := (by omega); have q488 : 2 < (t481.length : Int) := of_decide_eq_true (by first | (with_reducible assumption) | assumption); obtain ⟨ad488, e488, hx488_0, hx488_1, hx488_2⟩ := at_T33 (Kd.R_reads' HO485.out).2.2 2 p488 q488; obtain rfl : ad486 = ad488 := (by injection e488); (try simp only [show (2 : Int).toNat = 2 from rfl, Nat.reduceMul, Nat.reduceEqDiff, Go.Addr.add, ↓reduceIte] at hx488_0); (try simp only [show (2 : Int).toNat = 2 from rfl, Nat.reduceMul, Nat.reduceEqDiff, Go.Addr.add, ↓reduceIte] at hx488_1); (try simp only [show (2 : Int).toNat = 2 from rfl, Nat.reduceMul, Nat.reduceEqDiff, Go.Addr.add, ↓reduceIte] at hx488_2); have qi488 : (2 < t481.length) = True := eq_true (by omega); (try rw [show ((2 : Int)).toNat = 2 from rfl] at hx488_0); (try rw [show 2 * 3 = 6 from rfl] at hx488_0); (try rw [show ((2 : Int)).toNat = 2 from rfl] at hx488_1); (try rw [show 2 * 3 = 6 from rfl] at hx488_1); (try rw [show ((2 : Int)).toNat = 2 from rfl] at hx488_2); (try rw [show 2 * 3 = 6 from rfl] at hx488_2); replace p488 := eq_true p488; replace q488 := eq_true q488; have p489 : 0 ≤ (2 : Int) := (by omega); have q489 : 2 < (t481.length : Int) := of_decide_eq_true (by first | (with_reducible assumption) | assumption); obtain ⟨ad489, e489, hx489_0, hx489_1, hx489_2⟩ := at_T33 (Kd.R_reads' HO485.out).2.2 2 p489 q489; obtain rfl : ad486 = ad489 := (by injection e489); (try simp only [show (2 : Int).toNat = 2 from rfl, Nat.reduceMul, Nat.reduceEqDiff, Go.Addr.add, ↓reduceIte] at hx489_0); (try simp only [show (2 : Int).toNat = 2 from rfl, Nat.reduceMul, Nat.reduceEqDiff, Go.Addr.add, ↓reduceIte] at hx489_1); (try simp only [show (2 : Int).toNat = 2 from rfl, Nat.reduceMul, Nat.reduceEqDiff, Go.Addr.add, ↓reduceIte] at hx489_2); have qi489 : (2 < t481.length) = True := eq_true (by omega); (try rw [show ((2 : Int)).toNat = 2 from rfl] at hx489_0); (try rw [show 2 * 3 = 6 from rfl] at hx489_0); (try rw [show ((2 : Int)).toNat = 2 from rfl] at hx489_1); (try rw [show 2 * 3 = 6 from rfl] at hx489_1); (try rw [show ((2 : Int)).toNat = 2 from rfl] at hx489_2); (try rw [show 2 * 3 = 6 from rfl] at hx489_2); replace p489 := eq_true p489; replace q489 := eq_true q489; have p490 : 0 ≤ (4 : Int) := (by omega); have q490 : 4 < (t481.length : Int) := of_decide_eq_true (by first | (with_reducible assumption) | assumption); obtain ⟨ad490, e490, hx490_0, hx490_1, hx490_2⟩ := at_T33 (Kd.R_reads' HO485.out).2.2 4 p490 q490; obtain rfl : ad486 = ad490 := (by injection e490); (try simp only [show (4 : Int).toNat = 4 from rfl, Nat.reduceMul, Nat.reduceEqDiff, Go.Addr.add, ↓reduceIte] at hx490_0); (try simp only [show (4 : Int).toNat = 4 from rfl, Nat.reduceMul, Nat.reduceEqDiff, Go.Addr.add, ↓reduceIte] at hx490_1); (try simp only [show (4 : Int).toNat = 4 from rfl, Nat.reduceMul, Nat.reduceEqDiff, Go.Addr.add, ↓reduceIte] at hx490_2); have qi490 : (4 < t481.length) = True := eq_true (by omega); (try rw [show ((4 : Int)).toNat = 4 from rfl] at hx490_0); (try rw [show 4 * 3 = 12 from rfl] at hx490_0); (try rw [show ((4 : Int)).toNat = 4 from rfl] at hx490_1); (try rw [show 4 * 3 = 12 from rfl] at hx490_1); (try rw [show ((4 : Int)).toNat = 4 from rfl] at hx490_2); (try rw [show 4 * 3 = 12 from rfl] at hx490_2); replace p490 := eq_true p490; replace q490 := eq_true q490; have p491 : 0 ≤ (4 : Int) := (by omega); have q491 : 4 < (t481.length : Int) := of_decide_eq_true (by first | (with_reducible assumption) | assumption); obtain ⟨ad491, e491, hx491_0, hx491_1, hx491_2⟩ := at_T33 (Kd.R_reads' HO485.out).2.2 4 p491 q491; obtain rfl : ad486 = ad491 := (by injection e491); (try simp only [show (4 : Int).toNat = 4 from rfl, Nat.reduceMul, Nat.reduceEqDiff, Go.Addr.add, ↓reduceIte] at hx491_0); (try simp only [show (4 : Int).toNat = 4 from rfl, Nat.reduceMul, Nat.reduceEqDiff, Go.Addr.add, ↓reduceIte] at hx491_1); (try simp only [show (4 : Int).toNat = 4 from rfl, Nat.reduceMul, Nat.reduceEqDiff, Go.Addr.add, ↓reduceIte] at hx491_2); have qi491 : (4 < t481.length) = True := eq_true (by omega); (try rw [show ((4 : Int)).toNat = 4 from rfl] at hx491_0); (try rw [show 4 * 3 = 12 from rfl] at hx491_0); (try rw [show ((4 : Int)).toNat = 4 from rfl] at hx491_1); (try rw [show 4 * 3 = 12 from rfl] at hx491_1); (try rw [show ((4 : Int)).toNat = 4 from rfl] at hx491_2); (try rw [show 4 * 3 = 12 from rfl] at hx491_2); replace p491 := eq_true p491; replace q491 := eq_true q491; have p492 : 0 ≤ (5 : Int) := (by omega); have q492 : 5 < (t481.length : Int) := of_decide_eq_true (by first | (with_reducible assumption) | assumption); obtain ⟨ad492, e492, hx492_0, hx492_1, hx492_2⟩ := at_T33 (Kd.R_reads' HO485.out).2.2 5 p492 q492; obtain rfl : ad486 = ad492 := (by injection e492); (try simp only [show (5 : Int).toNat = 5 from rfl, Nat.reduceMul, Nat.reduceEqDiff, Go.Addr.add, ↓reduceIte] at hx492_0); (try simp only [show (5 : Int).toNat = 5 from rfl, Nat.reduceMul, Nat.reduceEqDiff, Go.Addr.add, ↓reduceIte] at hx492_1); (try simp only [show (5 : Int).toNat = 5 from rfl, Nat.reduceMul, Nat.reduceEqDiff, Go.Addr.add, ↓reduceIte] at hx492_2); have qi492 : (5 < t481.length) = True := eq_true (by omega); (try rw [show ((5 : Int)).toNat = 5 from rfl] at hx492_0); (try rw [show 5 * 3 = 15 from rfl] at hx492_0); (try rw [show ((5 : Int)).toNat = 5 from rfl] at hx492_1); (try rw [show 5 * 3 = 15 from rfl] at hx492_1); (try rw [show ((5 : Int)).toNat = 5 from rfl] at hx492_2); (try rw [show 5 * 3 = 15 from rfl] at hx492_2); replace p492 := eq_true p492; replace q492 := eq_true q492))
                                                          go_ret
                                                          exact ⟨by first | rfl | (simp [errW_none, errW_some] <;> rfl) | (simp only [← hji6, ← hji9]; first | rfl | (simp [errW_none, errW_some] <;> rfl)) | (simp [*, errW_none, errW_some] <;> rfl), by repeat (first | (with_reducible first | exact HB.out | apply below_alloc | apply pw_below_drewN | apply below_drew1) | exact HB.out)⟩
                                                        · rw [if_neg c74] at H
                                                          exact absurd H (by simp)
                                                      · rw [if_neg c73] at H
                                                        exact absurd H (by simp)
                                                    · rw [if_neg c72] at H
                                                      exact absurd H (by simp)
                                                  · rw [if_neg c71] at H
                                                    exact absurd H (by simp)
                                                · rw [if_neg c70] at H
                                                  exact absurd H (by simp)
                                              · rw [if_neg c69] at H
                                                exact absurd H (by simp)
                                            · rw [if_neg c68] at H
                                              exact absurd H (by simp)
                                          · rw [if_neg c67] at H
                                            exact absurd H (by simp)
                                        · rw [if_neg c66] at H
                                          exact absurd H (by simp)
                                      · rw [if_neg c65] at H
                                        exact absurd H (by simp)
                                    · rw [if_neg c64] at H
                                      exact absurd H (by simp)
                                  · rw [if_neg c63] at H
                                    exact absurd H (by simp)
                                · rw [if_neg c62] at H
                                  exact absurd H (by simp)
                              · rw [if_neg c61] at H
                                exact absurd H (by simp)
                            · exact absurd rfl c60
                          · rw [if_neg c58] at H
                            exact absurd H (by simp)
                        · rw [if_neg c57] at H
                          exact absurd H (by simp)
                      · rw [if_neg c56] at H
                        exact absurd H (by simp)
                    · rw [if_neg c55] at H
                      exact absurd H (by simp)
                  · rw [if_neg c54] at H
                    exact absurd H (by simp)
          · rw [if_neg c11] at H
            exact absurd H (by simp)
        · rw [if_neg c10] at H
          exact absurd H (by simp)
      · rw [if_neg c8] at H
        exact absurd H (by simp)
    · rw [if_neg c7] at H
      exact absurd H (by simp)
  · replace c5 := Bool.eq_false_iff.mpr c5
    subst c5
    have H1 : (none) = some r := by rw [if_neg (show ¬ (false = true) by decide)] at H; exact H
    clear H
    have H := H1
    clear H1
    exact absurd H (by simp)

/-- THE ONE PURE STATEMENT of archivistlaw07_LexLongest: yours. -/
def archivistlaw07_LexLongest.Pure : Prop := ∀ (a0 : Int) (a1 : Int) (l2 : List Int), (Lit.int .u8 a0).wf = true → (Lit.int .u8 a1).wf = true → l2.length ≤ maxLen → l2.length * 1 ≤ 140737488351232 → (∀ x ∈ l2, (Lit.int .u8 x).wf = true) → ∃ k, archivistlaw07_LexLongest.f k a0 a1 l2 = some true
theorem archivistlaw07_LexLongest.walk (P : archivistlaw07_LexLongest.Pure) (a0 : Int) (a1 : Int) (a2 : Option Addr) (len2 cap2 : Nat) (z2 : List Int) (w : World) (w0 : (Lit.int .u8 a0).wf = true) (w1 : (Lit.int .u8 a1).wf = true) (w2 : (a2 = none ∧ len2 = 0 ∧ cap2 = 0 ∧ z2 = []) ∨ ∃ x, a2 = some x ∧ len2 ≤ cap2 ∧ cap2 ≤ maxLen ∧ z2.length = cap2 ∧ (∀ i, i < z2.length → w.cell? (x.add i) = some (.int .u8 (z2.getD i 0))) ∧ ∀ n ∈ z2, (Lit.int .u8 n).wf = true) (y2 : len2 * 1 ≤ 140737488351232) :
    Calls Try.prog 6 #[.int .u8 a0, .int .u8 a1, .slice a2 len2 cap2] w fun e w' => e = .returned (.bool true) ∧ Below w.heap.size w w' := by
  obtain ⟨l2, rfl, hr2, hm2, hw2, hc2⟩ := ReadsInt.ofRowC w2
  obtain ⟨k, h⟩ := P a0 a1 l2 w0 w1 hm2 y2 hw2
  refine (archivistlaw07_LexLongest.calls k a0 a1 _ _ l2 true w (Kd.C_of_reads (d := (0 : Int)) (h1 := fun _ => rfl) hr2) hc2 h).mono ?_
  rintro e w' ⟨rfl, hd⟩
  exact ⟨rfl, hd⟩

end Go.Proofs.Ytifcnblgpnfehaa.X
