-- Laid by xprint.py, a program of this session's, out of the translation.
import Derived.Test.YtifcnblgpnfehaaX0
import Derived.Test.YtifcnblgpnfehaaX1
import Derived.Test.YtifcnblgpnfehaaX2
import Derived.Test.YtifcnblgpnfehaaX16
import Derived.Test.YtifcnblgpnfehaaX17
import Derived.Test.YtifcnblgpnfehaaX18
namespace Go.Proofs.Ytifcnblgpnfehaa.X
open Go.RowKit Go.Proofs.YtifcnblgpnfehaaW.PrintWords Go.Proofs.YtifcnblgpnfehaaW.PrintLast Go.Proofs.YtifcnblgpnfehaaW.PrintMore
attribute [local go_sem] max2_int min2_int max_two min_two max_three min_three max_four min_four x_isSome   -- for this text's walks alone
set_option linter.unusedVariables false
set_option linter.unusedSimpArgs false

attribute [local go_sem high] eqA33
/-! ### archivistlaw07_LexApart: function 7 -/
mutual
def archivistlaw07_LexApart.l0 : Nat → List Int → Bool → ByteArray → List (S33) → List ByteArray → Int → Option (Bool)
  | 0, _, _, _, _, _, _ => none
  | k + 1, x0, x3, x4, x5, x6, x7 => if x7 < (x0.length : Int) then (archivistlaw07_LexApart.j1 k x0 x3 x4 x5 x6 x7 (decide (x7 < 20))) else (archivistlaw07_LexApart.j1 k x0 x3 x4 x5 x6 x7 false)
def archivistlaw07_LexApart.j1 : Nat → List Int → Bool → ByteArray → List (S33) → List ByteArray → Int → Bool → Option (Bool)
  | 0, _, _, _, _, _, _, _ => none
  | k + 1, x0, x3, x4, x5, x6, x7, x29 => if x29 = true then (if 0 ≤ x7 then (if x7 < (x0.length : Int) then (if (Int.tmod (wrap64 (rd x0 x7)) 4) = 0 then (if 0 ≤ (Int.tmod (wrap64 (Int.tdiv (wrap64 (rd x0 x7)) 4)) 15) then (if (Int.tmod (wrap64 (Int.tdiv (wrap64 (rd x0 x7)) 4)) 15) < (x6.length : Int) then (if x5.length < 4398046511104 then (if x4.size + (rdOf ByteArray.empty x6 (Int.tmod (wrap64 (Int.tdiv (wrap64 (rd x0 x7)) 4)) 15)).size ≤ 9223372036854775807 then (if (x4 ++ (rdOf ByteArray.empty x6 (Int.tmod (wrap64 (Int.tdiv (wrap64 (rd x0 x7)) 4)) 15))).size + 1 ≤ 9223372036854775807 then (archivistlaw07_LexApart.l0 k x0 x3 ((x4 ++ (rdOf ByteArray.empty x6 (Int.tmod (wrap64 (Int.tdiv (wrap64 (rd x0 x7)) 4)) 15))) ++ (⟨#[32]⟩ : ByteArray)) (x5 ++ [(⟨4, rdOf ByteArray.empty x6 (Int.tmod (wrap64 (Int.tdiv (wrap64 (rd x0 x7)) 4)) 15), (x4.size : Int)⟩ : S33)]) x6 (wrap64 (x7 + 1))) else (none)) else (none)) else (none)) else (none)) else (none)) else (if (Int.tmod (wrap64 (rd x0 x7)) 4) = 1 then ((some (([rd x0 x7, 34, 120] : List Int) : List Int)).bind fun y504 => ((quote_Put.f k (strOfNums y504)).bind fun t507 => (if x5.length < 4398046511104 then (if x4.size + t507.size ≤ 9223372036854775807 then (if (x4 ++ t507).size + 1 ≤ 9223372036854775807 then (archivistlaw07_LexApart.l0 k x0 x3 ((x4 ++ t507) ++ (⟨#[32]⟩ : ByteArray)) (x5 ++ [(⟨2, strOfNums y504, (x4.size : Int)⟩ : S33)]) x6 (wrap64 (x7 + 1))) else (none)) else (none)) else (none)))) else (if (Int.tmod (wrap64 (rd x0 x7)) 4) = 2 then ((some (([(97 + (Int.tmod (rd x0 x7) 26)) % 256, 95, (48 + (Int.tmod (rd x0 x7) 10)) % 256] : List Int) : List Int)).bind fun y513 => (if 1 + (strOfNums y513).size ≤ 9223372036854775807 then (if x5.length < 4398046511104 then (if x4.size + ((⟨#[110]⟩ : ByteArray) ++ (strOfNums y513)).size ≤ 9223372036854775807 then (if (x4 ++ ((⟨#[110]⟩ : ByteArray) ++ (strOfNums y513))).size + 1 ≤ 9223372036854775807 then (archivistlaw07_LexApart.l0 k x0 x3 ((x4 ++ ((⟨#[110]⟩ : ByteArray) ++ (strOfNums y513))) ++ (⟨#[32]⟩ : ByteArray)) (x5 ++ [(⟨1, (⟨#[110]⟩ : ByteArray) ++ (strOfNums y513), (x4.size : Int)⟩ : S33)]) x6 (wrap64 (x7 + 1))) else (none)) else (none)) else (none)) else (none))) else (if (Int.tmod (wrap64 (rd x0 x7)) 4) = 3 then ((some (([(48 + (Int.tmod (rd x0 x7) 10)) % 256, (97 + (Int.tmod (rd x0 x7) 26)) % 256, 90] : List Int) : List Int)).bind fun y521 => (if x5.length < 4398046511104 then (if x4.size + (strOfNums y521).size ≤ 9223372036854775807 then (if (x4 ++ (strOfNums y521)).size + 1 ≤ 9223372036854775807 then (archivistlaw07_LexApart.l0 k x0 x3 ((x4 ++ (strOfNums y521)) ++ (⟨#[32]⟩ : ByteArray)) (x5 ++ [(⟨3, strOfNums y521, (x4.size : Int)⟩ : S33)]) x6 (wrap64 (x7 + 1))) else (none)) else (none)) else (none))) else (if x5.length < 4398046511104 then (if x4.size + 0 ≤ 9223372036854775807 then (if (x4 ++ (⟨#[]⟩ : ByteArray)).size + 1 ≤ 9223372036854775807 then (archivistlaw07_LexApart.l0 k x0 x3 ((x4 ++ (⟨#[]⟩ : ByteArray)) ++ (⟨#[32]⟩ : ByteArray)) (x5 ++ [(⟨4, (⟨#[]⟩ : ByteArray), (x4.size : Int)⟩ : S33)]) x6 (wrap64 (x7 + 1))) else (none)) else (none)) else (none)))))) else (none)) else (none)) else ((lex_All.f k x4).bind fun bt530 => (if (bt530.1.length : Int) = (x5.length : Int) then (archivistlaw07_LexApart.l1 k x3 x4 x5 bt530.1 bt530.2.1 bt530.2.2 0) else (none)))
def archivistlaw07_LexApart.l1 : Nat → Bool → ByteArray → List (S33) → List (S33) → Int → Int → Int → Option (Bool)
  | 0, _, _, _, _, _, _, _ => none
  | k + 1, x3, x4, x5, x11, x12, x13, x14 => if x14 < (x11.length : Int) then (if 0 ≤ x14 then (if x14 < (x5.length : Int) then (if (!(((rd_T33 x11 x14).f0) == ((rd_T33 x5 x14).f0)) || (!((((rd_T33 x11 x14).f1).toList) == (((rd_T33 x5 x14).f1).toList)) || (!(((rd_T33 x11 x14).f2) == ((rd_T33 x5 x14).f2))))) = true then (none) else (archivistlaw07_LexApart.l1 k x3 x4 x5 x11 x12 x13 (wrap64 (x14 + 1)))) else (none)) else (none)) else (if x3 = true then (if x13 = 0 then (some (x12 == (x4.size : Int))) else (none)) else (none))
end
def archivistlaw07_LexApart.f (k : Nat) (l0 : List Int) : Option (Bool) := (archivistlaw07_examples.f k).bind fun t493 => (if t493 = true then ((lex_Ops.f).bind fun t494 => (if (t494.length : Int) < 15 then (none) else (archivistlaw07_LexApart.l0 k l0 t493 (⟨#[]⟩ : ByteArray) ([] : List (S33)) t494 0))) else (none))
theorem archivistlaw07_LexApart.mono_l : ∀ k, (∀ y0 y1 y2 y3 y4 y5, LeO (archivistlaw07_LexApart.l0 k y0 y1 y2 y3 y4 y5) (archivistlaw07_LexApart.l0 (k + 1) y0 y1 y2 y3 y4 y5)) ∧ (∀ y0 y1 y2 y3 y4 y5 y6, LeO (archivistlaw07_LexApart.j1 k y0 y1 y2 y3 y4 y5 y6) (archivistlaw07_LexApart.j1 (k + 1) y0 y1 y2 y3 y4 y5 y6)) ∧ (∀ y0 y1 y2 y3 y4 y5 y6, LeO (archivistlaw07_LexApart.l1 k y0 y1 y2 y3 y4 y5 y6) (archivistlaw07_LexApart.l1 (k + 1) y0 y1 y2 y3 y4 y5 y6))
  | 0 => ⟨fun _ _ _ _ _ _ r h => by simp [archivistlaw07_LexApart.l0] at h, fun _ _ _ _ _ _ _ r h => by simp [archivistlaw07_LexApart.j1] at h, fun _ _ _ _ _ _ _ r h => by simp [archivistlaw07_LexApart.l1] at h⟩
  | k + 1 => by
    obtain ⟨ih0, ih1, ih2⟩ := archivistlaw07_LexApart.mono_l k
    refine ⟨?_, ?_, ?_⟩
    · intro y0 y1 y2 y3 y4 y5
      unfold archivistlaw07_LexApart.l0
      repeat' first
      | (with_reducible exact ih0 _ _ _ _ _ _)
      | (with_reducible exact ih1 _ _ _ _ _ _ _)
      | (with_reducible exact ih2 _ _ _ _ _ _ _)
      | (with_reducible exact archivistlaw07_examples.mono _)
      | (with_reducible exact lex_All.mono _ _)
      | (with_reducible exact quote_Put.mono _ _)
      | (with_reducible exact LeO.refl _)
      | (with_reducible exact LeO.none _)
      | (with_reducible refine LeO.ite ?_ ?_)
      | (with_reducible refine LeO.bind ?_ (fun _ => ?_))
      | exact ih0 _ _ _ _ _ _
      | exact ih1 _ _ _ _ _ _ _
      | exact ih2 _ _ _ _ _ _ _
      | exact archivistlaw07_examples.mono _
      | exact lex_All.mono _ _
      | exact quote_Put.mono _ _
      | exact LeO.none _
      | refine LeO.ite ?_ ?_
      | refine LeO.bind ?_ (fun _ => ?_)
    · intro y0 y1 y2 y3 y4 y5 y6
      unfold archivistlaw07_LexApart.j1
      repeat' first
      | (with_reducible exact ih0 _ _ _ _ _ _)
      | (with_reducible exact ih1 _ _ _ _ _ _ _)
      | (with_reducible exact ih2 _ _ _ _ _ _ _)
      | (with_reducible exact archivistlaw07_examples.mono _)
      | (with_reducible exact lex_All.mono _ _)
      | (with_reducible exact quote_Put.mono _ _)
      | (with_reducible exact LeO.refl _)
      | (with_reducible exact LeO.none _)
      | (with_reducible refine LeO.ite ?_ ?_)
      | (with_reducible refine LeO.bind ?_ (fun _ => ?_))
      | exact ih0 _ _ _ _ _ _
      | exact ih1 _ _ _ _ _ _ _
      | exact ih2 _ _ _ _ _ _ _
      | exact archivistlaw07_examples.mono _
      | exact lex_All.mono _ _
      | exact quote_Put.mono _ _
      | exact LeO.none _
      | refine LeO.ite ?_ ?_
      | refine LeO.bind ?_ (fun _ => ?_)
    · intro y0 y1 y2 y3 y4 y5 y6
      unfold archivistlaw07_LexApart.l1
      repeat' first
      | (with_reducible exact ih0 _ _ _ _ _ _)
      | (with_reducible exact ih1 _ _ _ _ _ _ _)
      | (with_reducible exact ih2 _ _ _ _ _ _ _)
      | (with_reducible exact archivistlaw07_examples.mono _)
      | (with_reducible exact lex_All.mono _ _)
      | (with_reducible exact quote_Put.mono _ _)
      | (with_reducible exact LeO.refl _)
      | (with_reducible exact LeO.none _)
      | (with_reducible refine LeO.ite ?_ ?_)
      | (with_reducible refine LeO.bind ?_ (fun _ => ?_))
      | exact ih0 _ _ _ _ _ _
      | exact ih1 _ _ _ _ _ _ _
      | exact ih2 _ _ _ _ _ _ _
      | exact archivistlaw07_examples.mono _
      | exact lex_All.mono _ _
      | exact quote_Put.mono _ _
      | exact LeO.none _
      | refine LeO.ite ?_ ?_
      | refine LeO.bind ?_ (fun _ => ?_)
theorem archivistlaw07_LexApart.mono : ∀ a0 k, LeO (archivistlaw07_LexApart.f k a0) (archivistlaw07_LexApart.f (k + 1) a0) := by
  intro a0 k
  obtain ⟨ih0, ih1, ih2⟩ := archivistlaw07_LexApart.mono_l k
  unfold archivistlaw07_LexApart.f
  repeat' first
      | (with_reducible exact ih0 _ _ _ _ _ _)
      | (with_reducible exact ih1 _ _ _ _ _ _ _)
      | (with_reducible exact ih2 _ _ _ _ _ _ _)
      | (with_reducible exact archivistlaw07_examples.mono _)
      | (with_reducible exact lex_All.mono _ _)
      | (with_reducible exact quote_Put.mono _ _)
      | (with_reducible exact LeO.refl _)
      | (with_reducible exact LeO.none _)
      | (with_reducible refine LeO.ite ?_ ?_)
      | (with_reducible refine LeO.bind ?_ (fun _ => ?_))
      | exact ih0 _ _ _ _ _ _
      | exact ih1 _ _ _ _ _ _ _
      | exact ih2 _ _ _ _ _ _ _
      | exact archivistlaw07_examples.mono _
      | exact lex_All.mono _ _
      | exact quote_Put.mono _ _
      | exact LeO.none _
      | refine LeO.ite ?_ ?_
      | refine LeO.bind ?_ (fun _ => ?_)
def archivistlaw07_LexApart.T25 : Bool × List (List Nat × List Nat) := (true, [([], []), ([], []), ([0, 1], [0, 1]), ([2], [2]), ([3], [3]), ([4], [4]), ([], []), ([], []), ([6, 7], [6, 7]), ([8], [8]), ([9], [9]), ([10], [10]), ([5, 11], [5, 11]), ([12], [12]), ([13], [13]), ([0, 1, 2, 3, 4, 5, 6, 7, 8, 9, 10, 11, 12, 13, 14], []), ([15, 14, 0, 1, 2, 3, 4, 5, 6, 7, 8, 9, 10, 11, 12, 13, 14], [14, 15])])
def archivistlaw07_LexApart.B25 : List Nat := [0, 0, 3, 7, 15, 31, 0, 0, 192, 448, 960, 1984, 4095, 8191, 16383, 32767, 65535]
theorem archivistlaw07_LexApart.tab25 : rtab .any (opsOf Try.f7 25) = archivistlaw07_LexApart.T25 := by kernel_rfl
theorem archivistlaw07_LexApart.bits25 : waitsOk archivistlaw07_LexApart.T25.2 archivistlaw07_LexApart.B25 = true := by kernel_rfl
def archivistlaw07_LexApart.T29 : Bool × List (List Nat × List Nat) := (true, [([], []), ([], []), ([0, 1], [0, 1]), ([2], [2]), ([3], [3]), ([4], [4]), ([], []), ([], []), ([6, 7], [6, 7]), ([8], [8]), ([9], [9]), ([10], [10]), ([5, 11], [5, 11]), ([12], [12]), ([0, 1, 2, 3, 4, 5, 6, 7, 8, 9, 10, 11, 12, 13], []), ([14, 13, 0, 1, 2, 3, 4, 5, 6, 7, 8, 9, 10, 11, 12, 13], [13, 14])])
def archivistlaw07_LexApart.B29 : List Nat := [0, 0, 3, 7, 15, 31, 0, 0, 192, 448, 960, 1984, 4095, 8191, 16383, 32767]
theorem archivistlaw07_LexApart.tab29 : rtab .any (opsOf Try.f7 29) = archivistlaw07_LexApart.T29 := by kernel_rfl
theorem archivistlaw07_LexApart.bits29 : waitsOk archivistlaw07_LexApart.T29.2 archivistlaw07_LexApart.B29 = true := by kernel_rfl
def archivistlaw07_LexApart.T39 : Bool × List (List Nat × List Nat) := (true, [([], []), ([], []), ([0, 1], [0, 1]), ([2], [2]), ([], []), ([], []), ([4, 5], [4, 5]), ([6], [6]), ([3, 7], [3, 7])])
def archivistlaw07_LexApart.B39 : List Nat := [0, 0, 3, 7, 0, 0, 48, 112, 255]
theorem archivistlaw07_LexApart.tab39 : rtab .any (opsOf Try.f7 39) = archivistlaw07_LexApart.T39 := by kernel_rfl
theorem archivistlaw07_LexApart.bits39 : waitsOk archivistlaw07_LexApart.T39.2 archivistlaw07_LexApart.B39 = true := by kernel_rfl
set_option maxHeartbeats 8000000 in
set_option maxRecDepth 100000 in
theorem archivistlaw07_LexApart.calls (k : Nat) (A0 : Option Addr) (c0 : Nat) (l0 : List Int) (r : Bool) (w : World) (hr0 : Kd.C (Kd.int .u8) w A0 l0.length l0) (hc0 : l0.length ≤ c0) (h : archivistlaw07_LexApart.f k l0 = some r) :
    Calls Try.prog 7 #[.slice A0 l0.length c0] w fun e w' => e = .returned (.bool r) ∧ Below w.heap.size w w' := by
  have hu33 := Try.underlying33
  have HR0 := Aside0.mk hr0
  have HC0 := Aside0.mk hc0
  clear hr0 hc0
  have HB := Aside0.mk (Below.refl w.heap.size w)
  have H : ((archivistlaw07_examples.f k).bind fun t493 => (if t493 = true then ((lex_Ops.f).bind fun t494 => (if (t494.length : Int) < 15 then (none) else (archivistlaw07_LexApart.l0 k l0 t493 (⟨#[]⟩ : ByteArray) ([] : List (S33)) t494 0))) else (none))) = some r := h
  clear h
  replace H := Option.bind_eq_some_iff.mp H
  obtain ⟨t493, A20, H⟩ := H
  replace H : (if t493 = true then ((lex_Ops.f).bind fun t494 => (if (t494.length : Int) < 15 then (none) else (archivistlaw07_LexApart.l0 k l0 t493 (⟨#[]⟩ : ByteArray) ([] : List (S33)) t494 0))) else (none)) = some r := H
  have A2 := Aside0.mk A20
  clear A20
  by_cases c3 : t493 = true
  · subst c3
    have H1 : ((lex_Ops.f).bind fun t494 => (if (t494.length : Int) < 15 then (none) else (archivistlaw07_LexApart.l0 k l0 true (⟨#[]⟩ : ByteArray) ([] : List (S33)) t494 0))) = some r := by rw [if_pos rfl] at H; exact H
    clear H
    have H := H1
    clear H1
    replace H := Option.bind_eq_some_iff.mp H
    obtain ⟨t494, A40, H⟩ := H
    replace H : (if (t494.length : Int) < 15 then (none) else (archivistlaw07_LexApart.l0 k l0 true (⟨#[]⟩ : ByteArray) ([] : List (S33)) t494 0)) = some r := H
    have A4 := Aside0.mk A40
    clear A40
    by_cases c5 : (t494.length : Int) < 15
    · rw [if_pos c5] at H
      exact absurd H (by simp)
    · rw [if_neg c5] at H
      have c5b0 : decide ((t494.length : Int) < 15) = false := decide_eq_false c5
      have c5b1 : decide (t494.length < 15) = false := decide_eq_false (by omega)
      clear c5
      have H' := Aside0.mk H
      clear H
      go_enter Try.func7, Try.ntmps7
      go_wp2_with (first | ((with_reducible refine gate_callee (f := 15) rfl ?_); refine goesL_ (some 15) rfl rfl Try.func15 (by kernel_rfl) rfl #[] rfl (by (try simp only [List.map_toArray, List.map_cons, List.map_nil]); first | done | rfl | (simp only [List.length_drop, List.length_take]; rfl)) ?_; (with_reducible refine (archivistlaw07_examples.calls k  true _ A2.out).mono ?_); rintro e w6 ⟨rfl, hb⟩; refine ⟨_, rfl, ?_⟩; have n0_ := Aside0.mk (below_step (by repeat (first | (with_reducible first | exact HB.out | apply below_alloc | apply pw_below_drewN | apply below_drew1) | exact HB.out)) hb); clear HB; have HB := n0_; clear n0_; (try clear hb); (try clear hb2); (try clear hk); (try clear hi)) | ((with_reducible refine gate_callee (f := 19) rfl ?_); refine goesL_ (some 18) rfl rfl Try.func19 (by kernel_rfl) rfl #[] rfl (by (try simp only [List.map_toArray, List.map_cons, List.map_nil]); first | done | rfl | (simp only [List.length_drop, List.length_take]; rfl)) ?_; (with_reducible refine (lex_Ops.calls  t494 _ A4.out).mono ?_); rintro e w7 ⟨v495, rfl, ho0, hb⟩; refine ⟨_, rfl, ?_⟩; have n0_ := Aside0.mk (Kd.R_lower ho0 (below_size (by repeat (first | (with_reducible first | exact HB.out | apply below_alloc | apply pw_below_drewN | apply below_drew1) | exact HB.out)))); have n1_ := Aside0.mk (below_step (by repeat (first | (with_reducible first | exact HB.out | apply below_alloc | apply pw_below_drewN | apply below_drew1) | exact HB.out)) hb); clear HB; have HO496 := n0_; have HB := n1_; clear n0_ n1_; (try clear hb); (try clear hb2); (try clear hk); (try clear hi); (try clear ho0); obtain ⟨Ao8, co8, eo8⟩ := Kd.R_slice HO496.out; subst eo8))
      go_loopg [4, 5, 7] k (fun kq v4 v5 v7 w' => ∃ (x4_1 : ByteArray) (x5_1 : List (S33)) (x7_1 : Int), v4 = .string x4_1 ∧ v7 = .int .i64 x7_1 ∧ Aside0 (archivistlaw07_LexApart.l0 kq l0 true x4_1 x5_1 t494 x7_1 = some r) ∧ Aside0 (kq ≤ k) ∧ Aside0 (Kd.R k33 33 w' w.heap.size (fun _ => True) v5 x5_1) ∧ Aside0 (Kd.R Kd.string 9 w' w.heap.size (fun _ => True) (.slice Ao8 t494.length co8) t494) ∧ Aside0 (Below w.heap.size w w'))
      case atStart => exact ⟨((⟨#[]⟩ : ByteArray)), (([] : List (S33))), (0), (by first | rfl | (simp; done) | (simp [*]; done)), (by first | rfl | (simp; done) | (simp [*]; done)), H', ⟨Nat.le_refl _⟩, ⟨by first | exact Kd.R_nil _ _ _ _ _ | exact Kd.N_nil _ _ _ _ _ | exact Kd.V_nil _ _ _ _ _ | exact Kd.Q_nil _ _ _ _ _ | exact Kd.S_nil _ _ _ _ _⟩, ⟨by (with_reducible repeat (first | apply Kd.R_alloc | apply Kd.R_drewN | apply Kd.R_drew)); exact HO496.out⟩, ⟨by repeat (first | (with_reducible first | exact HB.out | apply below_alloc | apply pw_below_drewN | apply below_drew1) | exact HB.out)⟩⟩
      case round =>
        clear H'
        try clear c1
        try clear p2
        try clear c3
        try clear c5
        try clear c5b0
        try clear c5b1
        try clear c7
        obtain ⟨x4_1, x5_1, x7_1, rfl, rfl, HA, HK1, HO_5, HO_6, HB⟩ := hrel
        cases gk with
        | zero => exact absurd HA.out (by simp [archivistlaw07_LexApart.l0])
        | succ k1 =>
          have H := HA.out
          clear HA
          simp only [archivistlaw07_LexApart.l0] at H
          have HC9 := Aside0.mk H
          clear H
          go_upto_region 10 with (fail)
          go_cut [29] (fun v29 wc => ∃ (kq : Nat) (x29_8 : Bool), v29 = .bool x29_8 ∧ Aside0 (archivistlaw07_LexApart.j1 kq l0 true x4_1 x5_1 t494 x7_1 x29_8 = some r) ∧ Aside0 (kq ≤ k1) ∧ Aside0 (Kd.R k33 33 wc w.heap.size (fun _ => True) u5 x5_1) ∧ Aside0 (Kd.R Kd.string 9 wc w.heap.size (fun _ => True) (.slice Ao8 t494.length co8) t494) ∧ Aside0 (Below w.heap.size w wc))
          case first =>
            have H := HC9.out
            clear HC9
            by_cases c10 : x7_1 < (l0.length : Int)
            · rw [if_pos c10] at H
              have c10b0 : decide (x7_1 < (l0.length : Int)) = true := decide_eq_true c10
              clear c10
              (first | rw [c10b0] | (simp only [i64_w, i32_w]; rw [c10b0]) | skip)
              have H' := Aside0.mk H
              clear H
              go_wp2
              go_meet
              case rel => exact ⟨_, (decide (x7_1 < 20)), (by first | rfl | (simp; done) | (simp [*]; done)), H', ⟨by have := HK1.out; first | omega | exact Nat.le_refl _⟩, ⟨by (with_reducible repeat (first | apply Kd.R_alloc | apply Kd.R_drewN | apply Kd.R_drew)); exact HO_5.out⟩, ⟨by (with_reducible repeat (first | apply Kd.R_alloc | apply Kd.R_drewN | apply Kd.R_drew)); exact HO_6.out⟩, ⟨by repeat (first | (with_reducible first | exact HB.out | apply below_alloc | apply pw_below_drewN | apply below_drew1) | exact HB.out)⟩⟩
            · rw [if_neg c10] at H
              have c10b0 : decide (x7_1 < (l0.length : Int)) = false := decide_eq_false c10
              clear c10
              (first | rw [c10b0] | (simp only [i64_w, i32_w]; rw [c10b0]) | skip)
              have H' := Aside0.mk H
              clear H
              go_wp2
              go_meet
              case rel => exact ⟨_, (false), (by first | rfl | (simp; done) | (simp [*]; done)), H', ⟨by have := HK1.out; first | omega | exact Nat.le_refl _⟩, ⟨by (with_reducible repeat (first | apply Kd.R_alloc | apply Kd.R_drewN | apply Kd.R_drew)); exact HO_5.out⟩, ⟨by (with_reducible repeat (first | apply Kd.R_alloc | apply Kd.R_drewN | apply Kd.R_drew)); exact HO_6.out⟩, ⟨by repeat (first | (with_reducible first | exact HB.out | apply below_alloc | apply pw_below_drewN | apply below_drew1) | exact HB.out)⟩⟩
          case rest =>
            clear HC9
            try clear c1
            try clear p2
            try clear c3
            try clear c5
            try clear c5b0
            try clear c5b1
            try clear c7
            try clear c10
            try clear c10b0
            try clear p2
            obtain ⟨kq, x29_8, rfl, HA, HJ8, HO_5, HO_6, HB⟩ := hcut
            cases kq with
            | zero => exact absurd HA.out (by simp [archivistlaw07_LexApart.j1])
            | succ kj8 =>
              have H := HA.out
              clear HA
              simp only [archivistlaw07_LexApart.j1] at H
              by_cases c11 : x29_8 = true
              · subst c11
                have H1 : (if 0 ≤ x7_1 then (if x7_1 < (l0.length : Int) then (if (Int.tmod (wrap64 (rd l0 x7_1)) 4) = 0 then (if 0 ≤ (Int.tmod (wrap64 (Int.tdiv (wrap64 (rd l0 x7_1)) 4)) 15) then (if (Int.tmod (wrap64 (Int.tdiv (wrap64 (rd l0 x7_1)) 4)) 15) < (t494.length : Int) then (if x5_1.length < 4398046511104 then (if x4_1.size + (rdOf ByteArray.empty t494 (Int.tmod (wrap64 (Int.tdiv (wrap64 (rd l0 x7_1)) 4)) 15)).size ≤ 9223372036854775807 then (if (x4_1 ++ (rdOf ByteArray.empty t494 (Int.tmod (wrap64 (Int.tdiv (wrap64 (rd l0 x7_1)) 4)) 15))).size + 1 ≤ 9223372036854775807 then (archivistlaw07_LexApart.l0 kj8 l0 true ((x4_1 ++ (rdOf ByteArray.empty t494 (Int.tmod (wrap64 (Int.tdiv (wrap64 (rd l0 x7_1)) 4)) 15))) ++ (⟨#[32]⟩ : ByteArray)) (x5_1 ++ [(⟨4, rdOf ByteArray.empty t494 (Int.tmod (wrap64 (Int.tdiv (wrap64 (rd l0 x7_1)) 4)) 15), (x4_1.size : Int)⟩ : S33)]) t494 (wrap64 (x7_1 + 1))) else (none)) else (none)) else (none)) else (none)) else (none)) else (if (Int.tmod (wrap64 (rd l0 x7_1)) 4) = 1 then ((some (([rd l0 x7_1, 34, 120] : List Int) : List Int)).bind fun y504 => ((quote_Put.f kj8 (strOfNums y504)).bind fun t507 => (if x5_1.length < 4398046511104 then (if x4_1.size + t507.size ≤ 9223372036854775807 then (if (x4_1 ++ t507).size + 1 ≤ 9223372036854775807 then (archivistlaw07_LexApart.l0 kj8 l0 true ((x4_1 ++ t507) ++ (⟨#[32]⟩ : ByteArray)) (x5_1 ++ [(⟨2, strOfNums y504, (x4_1.size : Int)⟩ : S33)]) t494 (wrap64 (x7_1 + 1))) else (none)) else (none)) else (none)))) else (if (Int.tmod (wrap64 (rd l0 x7_1)) 4) = 2 then ((some (([(97 + (Int.tmod (rd l0 x7_1) 26)) % 256, 95, (48 + (Int.tmod (rd l0 x7_1) 10)) % 256] : List Int) : List Int)).bind fun y513 => (if 1 + (strOfNums y513).size ≤ 9223372036854775807 then (if x5_1.length < 4398046511104 then (if x4_1.size + ((⟨#[110]⟩ : ByteArray) ++ (strOfNums y513)).size ≤ 9223372036854775807 then (if (x4_1 ++ ((⟨#[110]⟩ : ByteArray) ++ (strOfNums y513))).size + 1 ≤ 9223372036854775807 then (archivistlaw07_LexApart.l0 kj8 l0 true ((x4_1 ++ ((⟨#[110]⟩ : ByteArray) ++ (strOfNums y513))) ++ (⟨#[32]⟩ : ByteArray)) (x5_1 ++ [(⟨1, (⟨#[110]⟩ : ByteArray) ++ (strOfNums y513), (x4_1.size : Int)⟩ : S33)]) t494 (wrap64 (x7_1 + 1))) else (none)) else (none)) else (none)) else (none))) else (if (Int.tmod (wrap64 (rd l0 x7_1)) 4) = 3 then ((some (([(48 + (Int.tmod (rd l0 x7_1) 10)) % 256, (97 + (Int.tmod (rd l0 x7_1) 26)) % 256, 90] : List Int) : List Int)).bind fun y521 => (if x5_1.length < 4398046511104 then (if x4_1.size + (strOfNums y521).size ≤ 9223372036854775807 then (if (x4_1 ++ (strOfNums y521)).size + 1 ≤ 9223372036854775807 then (archivistlaw07_LexApart.l0 kj8 l0 true ((x4_1 ++ (strOfNums y521)) ++ (⟨#[32]⟩ : ByteArray)) (x5_1 ++ [(⟨3, strOfNums y521, (x4_1.size : Int)⟩ : S33)]) t494 (wrap64 (x7_1 + 1))) else (none)) else (none)) else (none))) else (if x5_1.length < 4398046511104 then (if x4_1.size + 0 ≤ 9223372036854775807 then (if (x4_1 ++ (⟨#[]⟩ : ByteArray)).size + 1 ≤ 9223372036854775807 then (archivistlaw07_LexApart.l0 kj8 l0 true ((x4_1 ++ (⟨#[]⟩ : ByteArray)) ++ (⟨#[32]⟩ : ByteArray)) (x5_1 ++ [(⟨4, (⟨#[]⟩ : ByteArray), (x4_1.size : Int)⟩ : S33)]) t494 (wrap64 (x7_1 + 1))) else (none)) else (none)) else (none)))))) else (none)) else (none)) = some r := by rw [if_pos rfl] at H; exact H
                clear H
                have H := H1
                clear H1
                by_cases c12 : 0 ≤ x7_1
                · rw [if_pos c12] at H
                  have c12b0 : decide (0 ≤ x7_1) = true := decide_eq_true c12
                  clear c12
                  by_cases c13 : x7_1 < (l0.length : Int)
                  · rw [if_pos c13] at H
                    have c13b0 : decide (x7_1 < (l0.length : Int)) = true := decide_eq_true c13
                    clear c13
                    by_cases c14 : (Int.tmod (wrap64 (rd l0 x7_1)) 4) = 0
                    · rw [if_pos c14] at H
                      have c14b0 : ((Int.tmod (wrap64 (rd l0 x7_1)) 4) == 0) = true := beq_iff_eq.mpr c14
                      have c14b1 : ((Int.tmod (wrap64 (rd l0 x7_1)) 4) != 0) = false := bne_eq_false_iff_eq.mpr c14
                      clear c14
                      obtain ⟨ji15, hji15⟩ : ∃ j_ : Int, (Int.tmod (wrap64 (Int.tdiv (wrap64 (rd l0 x7_1)) 4)) 15) = j_ := ⟨_, rfl⟩
                      replace H : (if 0 ≤ (ji15) then (if (ji15) < (t494.length : Int) then (if x5_1.length < 4398046511104 then (if x4_1.size + (rdOf ByteArray.empty t494 (ji15)).size ≤ 9223372036854775807 then (if (x4_1 ++ (rdOf ByteArray.empty t494 (ji15))).size + 1 ≤ 9223372036854775807 then (archivistlaw07_LexApart.l0 kj8 l0 true ((x4_1 ++ (rdOf ByteArray.empty t494 (ji15))) ++ (⟨#[32]⟩ : ByteArray)) (x5_1 ++ [(⟨4, rdOf ByteArray.empty t494 (ji15), (x4_1.size : Int)⟩ : S33)]) t494 (wrap64 (x7_1 + 1))) else (none)) else (none)) else (none)) else (none)) else (none)) = some r := by first | (rw [hji15] at H; exact H) | (simp only [hji15] at H ⊢; exact H)
                      by_cases c16 : 0 ≤ (ji15)
                      · rw [if_pos c16] at H
                        have c16b0 : decide (0 ≤ (ji15)) = true := decide_eq_true c16
                        clear c16
                        by_cases c17 : (ji15) < (t494.length : Int)
                        · rw [if_pos c17] at H
                          have c17b0 : decide ((ji15) < (t494.length : Int)) = true := decide_eq_true c17
                          clear c17
                          by_cases c18 : x5_1.length < 4398046511104
                          · rw [if_pos c18] at H
                            have LMc18 := Aside0.mk c18
                            clear c18
                            obtain ⟨y500, hy500⟩ : ∃ y_ : List (S33), y_ = (x5_1 ++ [(⟨4, rdOf ByteArray.empty t494 (ji15), (x4_1.size : Int)⟩ : S33)]) := ⟨_, rfl⟩
                            replace H : (if x4_1.size + (rdOf ByteArray.empty t494 (ji15)).size ≤ 9223372036854775807 then (if (x4_1 ++ (rdOf ByteArray.empty t494 (ji15))).size + 1 ≤ 9223372036854775807 then (archivistlaw07_LexApart.l0 kj8 l0 true ((x4_1 ++ (rdOf ByteArray.empty t494 (ji15))) ++ (⟨#[32]⟩ : ByteArray)) y500 t494 (wrap64 (x7_1 + 1))) else (none)) else (none)) = some r := by first | (rw [hy500]; with_reducible exact H) | (have H2_ := (Option.bind_some _ _).symm.trans H; rw [hy500]; with_reducible exact H2_) | (have H2_ := (Option.bind_some _ _).symm.trans H; with_reducible exact H2_) | with_reducible exact H | (rw [hy500]; exact H) | exact H
                            have Ny500 := Aside0.mk hy500
                            clear hy500
                            by_cases c19 : x4_1.size + (rdOf ByteArray.empty t494 (ji15)).size ≤ 9223372036854775807
                            · rw [if_pos c19] at H
                              have c19b0 := eq_true c19
                              have c19b1 : decide (x4_1.size + (rdOf ByteArray.empty t494 (ji15)).size ≤ 9223372036854775807) = true := decide_eq_true c19
                              try have c19b2 : (9223372036854775807 < x4_1.size + (rdOf ByteArray.empty t494 (ji15)).size) = False := eq_false (Nat.not_lt.2 c19)
                              by_cases c20 : (x4_1 ++ (rdOf ByteArray.empty t494 (ji15))).size + 1 ≤ 9223372036854775807
                              · rw [if_pos c20] at H
                                have c20b0 := eq_true c20
                                have c20b1 : decide ((x4_1 ++ (rdOf ByteArray.empty t494 (ji15))).size + 1 ≤ 9223372036854775807) = true := decide_eq_true c20
                                try have c20b2 : (9223372036854775807 < (x4_1 ++ (rdOf ByteArray.empty t494 (ji15))).size + 1) = False := eq_false (Nat.not_lt.2 c20)
                                try (have c20b3 : (9223372036854775807 < (x4_1 ++ (rdOf ByteArray.empty t494 (ji15))).size + 1) = False := eq_false (Nat.not_lt.2 c20); simp only [ByteArray.size_append, Nat.add_zero, Nat.zero_add] at c20b3)
                                have H' := Aside0.mk H
                                clear H
                                have p497 : 0 ≤ (x7_1 : Int) := of_decide_eq_true (by first | (with_reducible assumption) | assumption)
                                have q497 : x7_1 < (l0.length : Int) := of_decide_eq_true (by first | (with_reducible assumption) | assumption)
                                obtain ⟨ad497, e497, hx497_0⟩ := Kd.at_int HR0.out x7_1 p497 q497
                                cases e497
                                replace hx497_0 := (HB.out.cell (World.block_lt_of_cell? w _ hx497_0)).trans hx497_0
                                replace p497 := eq_true p497
                                replace q497 := eq_true q497
                                go_wp2_with (first | ((with_reducible refine gate_dst (N := 9) rfl ?_); (try (refine gate_guard (by rfl) ?_; dsimp only)); refine box_event ?hg (N := 9) ?hd (cs := #[.int .i64 0, .string (⟨#[]⟩ : ByteArray), .int .i64 0]) (t := 33) ?hr ?_; (case hd => rfl); (case hg => rfl); (case hr => first | (go_simp; done) | (go_simp; rfl)); intro gb498 hg w21 hbox hb; have n0_ := Aside0.mk (Kd.R_below (Kd.R_elderB (by (with_reducible repeat (first | apply Kd.R_alloc | apply Kd.R_drewN | apply Kd.R_drew)); exact HO_5.out) gb498 (Nat.le_of_eq hg.symm)) hb); have n1_ := Aside0.mk (Kd.R_below (by (with_reducible repeat (first | apply Kd.R_alloc | apply Kd.R_drewN | apply Kd.R_drew)); exact HO_6.out) hb); have n2_ := Aside0.mk (below_step (by repeat (first | (with_reducible first | exact HB.out | apply below_alloc | apply pw_below_drewN | apply below_drew1) | exact HB.out)) hb); have n3_ := Aside0.mk (hbox); have n4_ := Aside0.mk ((by rw [hg]; exact (below_size (by repeat (first | (with_reducible first | exact HB.out | apply below_alloc | apply pw_below_drewN | apply below_drew1) | exact HB.out))) : w.heap.size ≤ gb498)); have n5_ := Aside0.mk ((by rw [hg]; exact (below_size (by repeat (first | (with_reducible first | exact HB.out | apply below_alloc | apply pw_below_drewN | apply below_drew1) | exact HB.out))) : w.heap.size ≤ gb498)); clear HO_5; clear HO_6; clear HB; have HO_5 := n0_; have HO_6 := n1_; have HB := n2_; have BK498 := n3_; have GW498 := n4_; have GE498 := n5_; clear n0_ n1_ n2_ n3_ n4_ n5_; clear hb hbox hg; have hcz22_0 : w21.cell? ⟨gb498, 0, none⟩ = some (.int .i64 0) := (blk_cell BK498.out 0).trans rfl; have hcz22_1 : w21.cell? ⟨gb498, 1, none⟩ = some (.string (⟨#[]⟩ : ByteArray)) := (blk_cell BK498.out 1).trans rfl; have hcz22_2 : w21.cell? ⟨gb498, 2, none⟩ = some (.int .i64 0) := (blk_cell BK498.out 2).trans rfl; have hfz22_0 := blk_frozen BK498.out 0; have hfz22_1 := blk_frozen BK498.out 1; have hfz22_2 := blk_frozen BK498.out 2; have p499 : 0 ≤ ((ji15) : Int) := of_decide_eq_true (by first | (with_reducible assumption) | assumption); have q499 : (ji15) < (t494.length : Int) := of_decide_eq_true (by first | (with_reducible assumption) | assumption); obtain ⟨ad499, e499, hx499_0⟩ := Kd.at_string (Kd.R_reads' HO_6.out).2.2 (ji15) p499 q499; cases e499; have hn499_0 : ad499.block ≠ gb498 := Kd.own_blk (Kd.R_ne HO_6.out BK498.out (by decide)); have hn499_1 : ad499.block ≠ gb498 := Kd.own_blk (Kd.R_ne HO_6.out BK498.out (by decide)); have hn499_2 : ad499.block ≠ gb498 := Kd.own_blk (Kd.R_ne HO_6.out BK498.out (by decide)); replace hx499_0 := (cell_far (p := ⟨gb498, 0, none⟩) (by first | (rw [add_block]; exact hn499_0) | (show (Addr.add _ _).block ≠ _; rw [add_block]; exact hn499_0) | exact hn499_0) (.int .i64 4)).trans hx499_0; replace hx499_0 := (cell_far (p := ⟨gb498, 1, none⟩) (by first | (rw [add_block]; exact hn499_1) | (show (Addr.add _ _).block ≠ _; rw [add_block]; exact hn499_1) | exact hn499_1) (.string (⟨#[]⟩ : ByteArray))).trans hx499_0; replace hx499_0 := (cell_far (p := ⟨gb498, 2, none⟩) (by first | (rw [add_block]; exact hn499_2) | (show (Addr.add _ _).block ≠ _; rw [add_block]; exact hn499_2) | exact hn499_2) (.int .i64 (x4_1.size : Int))).trans hx499_0; clear hn499_0; clear hn499_1; clear hn499_2; replace p499 := eq_true p499; replace q499 := eq_true q499) | ((with_reducible refine gate_builtin (b := .append) (xs := #[.tmp 107, .tmp 109]) rfl ?_); (try (refine gate_guard (by rfl) ?_; dsimp only)); at_builtin; refine Kd.R_append k33 (w0 := w) w.heap.size rfl (.tmp 107) (.tmp 109) 25 33 (.agg #[(.int .i64 0), (.string ⟨#[]⟩), (.int .i64 0)]) 32 rfl Try.underlying25 info33 rfl (by decide) (by omega) u5 x5_1 (⟨4, rdOf ByteArray.empty t494 (ji15), (x4_1.size : Int)⟩ : S33) [.int .i64 4, .string (rdOf ByteArray.empty t494 (ji15)), .int .i64 (x4_1.size : Int)] (fun k_ => k_ ≠ gb498) (fun _ => False) rfl (by first | (go_simp; done) | (go_simp; rfl)) ?aP (fun _ hk => hk.elim) ?aF ?aO ?aB ?aS ?aL ?_; (case aP => exact k33_mkM _ _ _ (⟨4, rdOf ByteArray.empty t494 (ji15), (x4_1.size : Int)⟩ : S33)); (case aB => exact (by repeat (first | (with_reducible first | exact HB.out | apply below_alloc | apply pw_below_drewN | apply below_drew1 | refine below_set ?_ GE498.out) | exact HB.out))); (case aF => exact (fun k_ hk => Kd.freshB (g := gb498) (o := .cells #[.int .i64 4, .string (rdOf ByteArray.empty t494 (ji15)), .int .i64 (x4_1.size : Int)] 33 (0, 0)) (by (with_reducible repeat (first | refine blk_drewN ?_ _ | refine blk_drew ?_ | refine blk_alloc ?_ _)); refine blk_put (cs := #[.int .i64 4, .string (⟨#[]⟩ : ByteArray), .int .i64 (x4_1.size : Int)]) ?_ 1 _ rfl; (with_reducible repeat (first | refine blk_drewN ?_ _ | refine blk_drew ?_ | refine blk_alloc ?_ _)); refine blk_put (cs := #[.int .i64 4, .string (⟨#[]⟩ : ByteArray), .int .i64 0]) ?_ 2 _ rfl; (with_reducible repeat (first | refine blk_drewN ?_ _ | refine blk_drew ?_ | refine blk_alloc ?_ _)); refine blk_put (cs := #[.int .i64 4, .string (⟨#[]⟩ : ByteArray), .int .i64 0]) ?_ 1 _ rfl; (with_reducible repeat (first | refine blk_drewN ?_ _ | refine blk_drew ?_ | refine blk_alloc ?_ _)); refine blk_put (cs := #[.int .i64 0, .string (⟨#[]⟩ : ByteArray), .int .i64 0]) ?_ 0 _ rfl; (with_reducible repeat (first | refine blk_drewN ?_ _ | refine blk_drew ?_ | refine blk_alloc ?_ _)); exact BK498.out) k_ hk)); (case aO => exact (by (with_reducible repeat (first | apply Kd.R_alloc | apply Kd.R_drewN | apply Kd.R_drew)); exact Kd.R_mono (Kd.R_far (p := ⟨gb498, 1, none⟩) (Kd.R_far (p := ⟨gb498, 2, none⟩) (Kd.R_far (p := ⟨gb498, 1, none⟩) (Kd.R_far (p := ⟨gb498, 0, none⟩) (Kd.R_mono HO_5.out (fun k_ hk => (⟨hk, hk.2⟩ : _ ∧ k_ ≠ gb498))) (fun _ hk => hk.2) (.int .i64 4)) (fun _ hk => hk.2) (.string (⟨#[]⟩ : ByteArray))) (fun _ hk => hk.2) (.int .i64 (x4_1.size : Int))) (fun _ hk => hk.2) (.string (rdOf ByteArray.empty t494 (ji15)))) (fun _ hk => hk.1.2))); (case aS => exact (below_size (by repeat (first | (with_reducible first | exact HB.out | apply below_alloc | apply pw_below_drewN | apply below_drew1 | refine below_set ?_ GE498.out) | exact HB.out)))); (case aL => have := LMc18.out; omega); intro v501 w23 ho hb hg hat; rw [← Ny500.out] at ho; have n0_ := Aside0.mk (Kd.R_over' (by (with_reducible repeat (first | apply Kd.R_alloc | apply Kd.R_drewN | apply Kd.R_drew)); exact (Kd.R_mono (Kd.R_far (p := ⟨gb498, 1, none⟩) (Kd.R_far (p := ⟨gb498, 2, none⟩) (Kd.R_far (p := ⟨gb498, 1, none⟩) (Kd.R_far (p := ⟨gb498, 0, none⟩) (Kd.R_types HO_6.out BK498.out (by decide)) (fun _ hk => hk.2) (.int .i64 4)) (fun _ hk => hk.2) (.string (⟨#[]⟩ : ByteArray))) (fun _ hk => hk.2) (.int .i64 (x4_1.size : Int))) (fun _ hk => hk.2) (.string (rdOf ByteArray.empty t494 (ji15)))) (fun _ h_ => h_.1))) (Kd.R_typed (by (with_reducible repeat (first | apply Kd.R_alloc | apply Kd.R_drewN | apply Kd.R_drew)); exact (Kd.R_mono (Kd.R_far (p := ⟨gb498, 1, none⟩) (Kd.R_far (p := ⟨gb498, 2, none⟩) (Kd.R_far (p := ⟨gb498, 1, none⟩) (Kd.R_far (p := ⟨gb498, 0, none⟩) (Kd.R_mono HO_5.out (fun k_ hk => (⟨hk, hk.2⟩ : _ ∧ k_ ≠ gb498))) (fun _ hk => hk.2) (.int .i64 4)) (fun _ hk => hk.2) (.string (⟨#[]⟩ : ByteArray))) (fun _ hk => hk.2) (.int .i64 (x4_1.size : Int))) (fun _ hk => hk.2) (.string (rdOf ByteArray.empty t494 (ji15)))) (fun _ h_ => h_.1)))) (by decide) hg); have n1_ := Aside0.mk (blk_grown (g := gb498) (o := .cells #[.int .i64 4, .string (rdOf ByteArray.empty t494 (ji15)), .int .i64 (x4_1.size : Int)] 33 (0, 0)) (by (with_reducible repeat (first | refine blk_drewN ?_ _ | refine blk_drew ?_ | refine blk_alloc ?_ _)); refine blk_put (cs := #[.int .i64 4, .string (⟨#[]⟩ : ByteArray), .int .i64 (x4_1.size : Int)]) ?_ 1 _ rfl; (with_reducible repeat (first | refine blk_drewN ?_ _ | refine blk_drew ?_ | refine blk_alloc ?_ _)); refine blk_put (cs := #[.int .i64 4, .string (⟨#[]⟩ : ByteArray), .int .i64 0]) ?_ 2 _ rfl; (with_reducible repeat (first | refine blk_drewN ?_ _ | refine blk_drew ?_ | refine blk_alloc ?_ _)); refine blk_put (cs := #[.int .i64 4, .string (⟨#[]⟩ : ByteArray), .int .i64 0]) ?_ 1 _ rfl; (with_reducible repeat (first | refine blk_drewN ?_ _ | refine blk_drew ?_ | refine blk_alloc ?_ _)); refine blk_put (cs := #[.int .i64 0, .string (⟨#[]⟩ : ByteArray), .int .i64 0]) ?_ 0 _ rfl; (with_reducible repeat (first | refine blk_drewN ?_ _ | refine blk_drew ?_ | refine blk_alloc ?_ _)); exact BK498.out) hg (Kd.R_away HO_5.out (fun _ hk => hk.2))); have n2_ := Aside0.mk (hb); have n3_ := Aside0.mk (ho); clear HO_6; clear BK498; clear HB; clear HO_5; have HO_6 := n0_; have BK498 := n1_; have HB := n2_; have HO502 := n3_; clear n0_ n1_ n2_ n3_; clear ho hb hg hat))
                                go_roundg kj8
                                case measure => have := HK1.out; have := HJ8.out; omega
                                case rel => exact ⟨((x4_1 ++ (rdOf ByteArray.empty t494 (ji15))) ++ (⟨#[32]⟩ : ByteArray)), (y500), (wrap64 (x7_1 + 1)), (by first | rfl | (simp; done) | (simp only [← hji15] <;> (first | rfl | simp)) | (simp [*]; done)), (by first | rfl | (simp; done) | (simp [*]; done)), H', ⟨by have := HK1.out; have := HJ8.out; omega⟩, ⟨by (with_reducible repeat (first | apply Kd.R_alloc | apply Kd.R_drewN | apply Kd.R_drew)); exact Kd.R_mono HO502.out (fun _ hk => trivial)⟩, ⟨by (with_reducible repeat (first | apply Kd.R_alloc | apply Kd.R_drewN | apply Kd.R_drew)); exact HO_6.out⟩, ⟨by repeat (first | (with_reducible first | exact HB.out | apply below_alloc | apply pw_below_drewN | apply below_drew1 | refine below_set ?_ GE498.out) | exact HB.out)⟩⟩
                              · rw [if_neg c20] at H
                                exact absurd H (by simp)
                            · rw [if_neg c19] at H
                              exact absurd H (by simp)
                          · rw [if_neg c18] at H
                            exact absurd H (by simp)
                        · rw [if_neg c17] at H
                          exact absurd H (by simp)
                      · rw [if_neg c16] at H
                        exact absurd H (by simp)
                    · rw [if_neg c14] at H
                      have c14b0 : ((Int.tmod (wrap64 (rd l0 x7_1)) 4) == 0) = false := beq_eq_false_iff_ne.mpr c14
                      have c14b1 : ((Int.tmod (wrap64 (rd l0 x7_1)) 4) != 0) = true := bne_iff_ne.mpr c14
                      by_cases c24 : (Int.tmod (wrap64 (rd l0 x7_1)) 4) = 1
                      · rw [if_pos c24] at H
                        have c24b0 : ((Int.tmod (wrap64 (rd l0 x7_1)) 4) == 1) = true := beq_iff_eq.mpr c24
                        have c24b1 : ((Int.tmod (wrap64 (rd l0 x7_1)) 4) != 1) = false := bne_eq_false_iff_eq.mpr c24
                        clear c24
                        obtain ⟨y504, hy504⟩ : ∃ y_ : List Int, y_ = (([rd l0 x7_1, 34, 120] : List Int)) := ⟨_, rfl⟩
                        replace H : ((quote_Put.f kj8 (strOfNums y504)).bind fun t507 => (if x5_1.length < 4398046511104 then (if x4_1.size + t507.size ≤ 9223372036854775807 then (if (x4_1 ++ t507).size + 1 ≤ 9223372036854775807 then (archivistlaw07_LexApart.l0 kj8 l0 true ((x4_1 ++ t507) ++ (⟨#[32]⟩ : ByteArray)) (x5_1 ++ [(⟨2, strOfNums y504, (x4_1.size : Int)⟩ : S33)]) t494 (wrap64 (x7_1 + 1))) else (none)) else (none)) else (none))) = some r := by first | (rw [hy504]; with_reducible exact H) | (have H2_ := (Option.bind_some _ _).symm.trans H; rw [hy504]; with_reducible exact H2_) | (have H2_ := (Option.bind_some _ _).symm.trans H; with_reducible exact H2_) | with_reducible exact H | (rw [hy504]; exact H) | exact H
                        have Ny504 := Aside0.mk hy504
                        clear hy504
                        replace H := Option.bind_eq_some_iff.mp H
                        obtain ⟨t507, A250, H⟩ := H
                        replace H : (if x5_1.length < 4398046511104 then (if x4_1.size + t507.size ≤ 9223372036854775807 then (if (x4_1 ++ t507).size + 1 ≤ 9223372036854775807 then (archivistlaw07_LexApart.l0 kj8 l0 true ((x4_1 ++ t507) ++ (⟨#[32]⟩ : ByteArray)) (x5_1 ++ [(⟨2, strOfNums y504, (x4_1.size : Int)⟩ : S33)]) t494 (wrap64 (x7_1 + 1))) else (none)) else (none)) else (none)) = some r := H
                        have A25 := Aside0.mk A250
                        clear A250
                        by_cases c26 : x5_1.length < 4398046511104
                        · rw [if_pos c26] at H
                          have LMc26 := Aside0.mk c26
                          clear c26
                          obtain ⟨y508, hy508⟩ : ∃ y_ : List (S33), y_ = (x5_1 ++ [(⟨2, strOfNums y504, (x4_1.size : Int)⟩ : S33)]) := ⟨_, rfl⟩
                          replace H : (if x4_1.size + t507.size ≤ 9223372036854775807 then (if (x4_1 ++ t507).size + 1 ≤ 9223372036854775807 then (archivistlaw07_LexApart.l0 kj8 l0 true ((x4_1 ++ t507) ++ (⟨#[32]⟩ : ByteArray)) y508 t494 (wrap64 (x7_1 + 1))) else (none)) else (none)) = some r := by first | (rw [hy508]; with_reducible exact H) | (have H2_ := (Option.bind_some _ _).symm.trans H; rw [hy508]; with_reducible exact H2_) | (have H2_ := (Option.bind_some _ _).symm.trans H; with_reducible exact H2_) | with_reducible exact H | (rw [hy508]; exact H) | exact H
                          have Ny508 := Aside0.mk hy508
                          clear hy508
                          by_cases c27 : x4_1.size + t507.size ≤ 9223372036854775807
                          · rw [if_pos c27] at H
                            have c27b0 := eq_true c27
                            have c27b1 : decide (x4_1.size + t507.size ≤ 9223372036854775807) = true := decide_eq_true c27
                            try have c27b2 : (9223372036854775807 < x4_1.size + t507.size) = False := eq_false (Nat.not_lt.2 c27)
                            by_cases c28 : (x4_1 ++ t507).size + 1 ≤ 9223372036854775807
                            · rw [if_pos c28] at H
                              have c28b0 := eq_true c28
                              have c28b1 : decide ((x4_1 ++ t507).size + 1 ≤ 9223372036854775807) = true := decide_eq_true c28
                              try have c28b2 : (9223372036854775807 < (x4_1 ++ t507).size + 1) = False := eq_false (Nat.not_lt.2 c28)
                              try (have c28b3 : (9223372036854775807 < (x4_1 ++ t507).size + 1) = False := eq_false (Nat.not_lt.2 c28); simp only [ByteArray.size_append, Nat.add_zero, Nat.zero_add] at c28b3)
                              have H' := Aside0.mk H
                              clear H
                              have p497 : 0 ≤ (x7_1 : Int) := of_decide_eq_true (by first | (with_reducible assumption) | assumption)
                              have q497 : x7_1 < (l0.length : Int) := of_decide_eq_true (by first | (with_reducible assumption) | assumption)
                              obtain ⟨ad497, e497, hx497_0⟩ := Kd.at_int HR0.out x7_1 p497 q497
                              cases e497
                              replace hx497_0 := (HB.out.cell (World.block_lt_of_cell? w _ hx497_0)).trans hx497_0
                              replace p497 := eq_true p497
                              replace q497 := eq_true q497
                              go_wp2_with (first | ((with_reducible refine gate_dst (N := 9) rfl ?_); (try (refine gate_guard (by rfl) ?_; dsimp only)); refine box_event ?hg (N := 9) ?hd (cs := #[.int .i64 0, .string (⟨#[]⟩ : ByteArray), .int .i64 0]) (t := 33) ?hr ?_; (case hd => rfl); (case hg => rfl); (case hr => first | (go_simp; done) | (go_simp; rfl)); intro gb498 hg w29 hbox hb; have n0_ := Aside0.mk (Kd.R_below (Kd.R_elderB (by (with_reducible repeat (first | apply Kd.R_alloc | apply Kd.R_drewN | apply Kd.R_drew)); exact HO_5.out) gb498 (Nat.le_of_eq hg.symm)) hb); have n1_ := Aside0.mk (Kd.R_below (by (with_reducible repeat (first | apply Kd.R_alloc | apply Kd.R_drewN | apply Kd.R_drew)); exact HO_6.out) hb); have n2_ := Aside0.mk (below_step (by repeat (first | (with_reducible first | exact HB.out | apply below_alloc | apply pw_below_drewN | apply below_drew1) | exact HB.out)) hb); have n3_ := Aside0.mk (hbox); have n4_ := Aside0.mk ((by rw [hg]; exact (below_size (by repeat (first | (with_reducible first | exact HB.out | apply below_alloc | apply pw_below_drewN | apply below_drew1) | exact HB.out))) : w.heap.size ≤ gb498)); have n5_ := Aside0.mk ((by rw [hg]; exact (below_size (by repeat (first | (with_reducible first | exact HB.out | apply below_alloc | apply pw_below_drewN | apply below_drew1) | exact HB.out))) : w.heap.size ≤ gb498)); clear HO_5; clear HO_6; clear HB; have HO_5 := n0_; have HO_6 := n1_; have HB := n2_; have BK498 := n3_; have GW498 := n4_; have GE498 := n5_; clear n0_ n1_ n2_ n3_ n4_ n5_; clear hb hbox hg; have hcz30_0 : w29.cell? ⟨gb498, 0, none⟩ = some (.int .i64 0) := (blk_cell BK498.out 0).trans rfl; have hcz30_1 : w29.cell? ⟨gb498, 1, none⟩ = some (.string (⟨#[]⟩ : ByteArray)) := (blk_cell BK498.out 1).trans rfl; have hcz30_2 : w29.cell? ⟨gb498, 2, none⟩ = some (.int .i64 0) := (blk_cell BK498.out 2).trans rfl; have hfz30_0 := blk_frozen BK498.out 0; have hfz30_1 := blk_frozen BK498.out 1; have hfz30_2 := blk_frozen BK498.out 2; have p503 : 0 ≤ (x7_1 : Int) := of_decide_eq_true (by first | (with_reducible assumption) | assumption); have q503 : x7_1 < (l0.length : Int) := of_decide_eq_true (by first | (with_reducible assumption) | assumption); obtain ⟨ad503, e503, hx503_0⟩ := Kd.at_int HR0.out x7_1 p503 q503; obtain rfl : ad497 = ad503 := (by injection e503); have hn503_0 : ad497.block ≠ gb498 := Nat.ne_of_lt (Nat.lt_of_lt_of_le (by have := World.block_lt_of_cell? _ _ hx503_0; first | rwa [add_block] at this | exact this) GW498.out); have hn503_1 : ad497.block ≠ gb498 := Nat.ne_of_lt (Nat.lt_of_lt_of_le (by have := World.block_lt_of_cell? _ _ hx503_0; first | rwa [add_block] at this | exact this) GW498.out); have hn503_2 : ad497.block ≠ gb498 := Nat.ne_of_lt (Nat.lt_of_lt_of_le (by have := World.block_lt_of_cell? _ _ hx503_0; first | rwa [add_block] at this | exact this) GW498.out); have hn503_3 : ad497.block ≠ gb498 := Nat.ne_of_lt (Nat.lt_of_lt_of_le (by have := World.block_lt_of_cell? _ _ hx503_0; first | rwa [add_block] at this | exact this) GW498.out); replace hx503_0 := (HB.out.cell (World.block_lt_of_cell? w _ hx503_0)).trans hx503_0; replace hx503_0 := (cell_far (p := ⟨gb498, 0, none⟩) (by first | (rw [add_block]; exact hn503_0) | (show (Addr.add _ _).block ≠ _; rw [add_block]; exact hn503_0) | exact hn503_0) (.int .i64 4)).trans hx503_0; replace hx503_0 := (cell_far (p := ⟨gb498, 1, none⟩) (by first | (rw [add_block]; exact hn503_1) | (show (Addr.add _ _).block ≠ _; rw [add_block]; exact hn503_1) | exact hn503_1) (.string (⟨#[]⟩ : ByteArray))).trans hx503_0; replace hx503_0 := (cell_far (p := ⟨gb498, 2, none⟩) (by first | (rw [add_block]; exact hn503_2) | (show (Addr.add _ _).block ≠ _; rw [add_block]; exact hn503_2) | exact hn503_2) (.int .i64 (x4_1.size : Int))).trans hx503_0; replace hx503_0 := (cell_far (p := ⟨gb498, 0, none⟩) (by first | (rw [add_block]; exact hn503_3) | (show (Addr.add _ _).block ≠ _; rw [add_block]; exact hn503_3) | exact hn503_3) (.int .i64 2)).trans hx503_0; clear hn503_0; clear hn503_1; clear hn503_2; clear hn503_3; replace p503 := eq_true p503; replace q503 := eq_true q503) | ((with_reducible refine gate_dst (N := 60) rfl ?_); (try (refine gate_guard (by rfl) ?_; dsimp only)); refine Kd.R_lit (Kd.int .u8) _ 5 ?hg (N := 60) ?hd (xs := ([rd l0 x7_1, 34, 120] : List Int)) (inner := [.int .u8 (rd l0 x7_1), .int .u8 34, .int .u8 120]) (ok := fun _ => True) (okp := fun _ => True) ?hr ?hp (fun _ hk => hk) trivial (Below.refl _ _) (Nat.le_refl _) (by simp) ?_; (case hd => rfl); (case hg => rfl); (case hr => first | (go_simp; done) | (go_simp; rfl)); (case hp => exact (Reps.one (show Kd.M (Kd.int .u8) _ _ _ (rd l0 x7_1) [.int .u8 (rd l0 x7_1)] from rfl) (Reps.one (show Kd.M (Kd.int .u8) _ _ _ 34 [.int .u8 34] from rfl) (Reps.one (show Kd.M (Kd.int .u8) _ _ _ 120 [.int .u8 120] from rfl) (Reps.none _ _))))); intro v505 w31 ho32 hb hg_ hnew_; clear hg_ hnew_; (first | rw [← Ny504.out] at ho32 | (simp only [Int.reduceToNat] at ho32; rw [← Ny504.out] at ho32)); have n0_ := Aside0.mk (Kd.R_below (by (with_reducible repeat (first | apply Kd.R_alloc | apply Kd.R_drewN | apply Kd.R_drew)); exact (Kd.R_mono (Kd.R_far (p := ⟨gb498, 0, none⟩) (Kd.R_far (p := ⟨gb498, 2, none⟩) (Kd.R_far (p := ⟨gb498, 1, none⟩) (Kd.R_far (p := ⟨gb498, 0, none⟩) (Kd.R_mono HO_5.out (fun k_ hk => (⟨hk, hk.2⟩ : _ ∧ k_ ≠ gb498))) (fun _ hk => hk.2) (.int .i64 4)) (fun _ hk => hk.2) (.string (⟨#[]⟩ : ByteArray))) (fun _ hk => hk.2) (.int .i64 (x4_1.size : Int))) (fun _ hk => hk.2) (.int .i64 2)) (fun _ h_ => h_.1))) hb); have n1_ := Aside0.mk (Kd.R_below (by (with_reducible repeat (first | apply Kd.R_alloc | apply Kd.R_drewN | apply Kd.R_drew)); exact (Kd.R_mono (Kd.R_far (p := ⟨gb498, 0, none⟩) (Kd.R_far (p := ⟨gb498, 2, none⟩) (Kd.R_far (p := ⟨gb498, 1, none⟩) (Kd.R_far (p := ⟨gb498, 0, none⟩) (Kd.R_types HO_6.out BK498.out (by decide)) (fun _ hk => hk.2) (.int .i64 4)) (fun _ hk => hk.2) (.string (⟨#[]⟩ : ByteArray))) (fun _ hk => hk.2) (.int .i64 (x4_1.size : Int))) (fun _ hk => hk.2) (.int .i64 2)) (fun _ h_ => h_.1))) hb); have n2_ := Aside0.mk (Kd.R_lower ho32 (below_size (by repeat (first | (with_reducible first | exact HB.out | apply below_alloc | apply pw_below_drewN | apply below_drew1 | refine below_set ?_ GE498.out) | exact HB.out)))); have n3_ := Aside0.mk (blk_below (g := gb498) (o := .cells #[.int .i64 2, .string (⟨#[]⟩ : ByteArray), .int .i64 (x4_1.size : Int)] 33 (0, 0)) (by (with_reducible repeat (first | refine blk_drewN ?_ _ | refine blk_drew ?_ | refine blk_alloc ?_ _)); refine blk_put (cs := #[.int .i64 4, .string (⟨#[]⟩ : ByteArray), .int .i64 (x4_1.size : Int)]) ?_ 0 _ rfl; (with_reducible repeat (first | refine blk_drewN ?_ _ | refine blk_drew ?_ | refine blk_alloc ?_ _)); refine blk_put (cs := #[.int .i64 4, .string (⟨#[]⟩ : ByteArray), .int .i64 0]) ?_ 2 _ rfl; (with_reducible repeat (first | refine blk_drewN ?_ _ | refine blk_drew ?_ | refine blk_alloc ?_ _)); refine blk_put (cs := #[.int .i64 4, .string (⟨#[]⟩ : ByteArray), .int .i64 0]) ?_ 1 _ rfl; (with_reducible repeat (first | refine blk_drewN ?_ _ | refine blk_drew ?_ | refine blk_alloc ?_ _)); refine blk_put (cs := #[.int .i64 0, .string (⟨#[]⟩ : ByteArray), .int .i64 0]) ?_ 0 _ rfl; (with_reducible repeat (first | refine blk_drewN ?_ _ | refine blk_drew ?_ | refine blk_alloc ?_ _)); exact BK498.out) hb); have n4_ := Aside0.mk (below_step (by repeat (first | (with_reducible first | exact HB.out | apply below_alloc | apply pw_below_drewN | apply below_drew1 | refine below_set ?_ GE498.out) | exact HB.out)) hb); clear HO_5; clear HO_6; clear BK498; clear HB; have HO_5 := n0_; have HO_6 := n1_; have HO506 := n2_; have BK498 := n3_; have HB := n4_; clear n0_ n1_ n2_ n3_ n4_; clear hb ho32; have hcv33 := own_string (P := Try.prog) Try.underlying22 Try.underlying5 Try.underlying9 (Kd.own_of_R HO506.out); have hcz34_0 : w31.cell? ⟨gb498, 0, none⟩ = some (.int .i64 2) := (blk_cell BK498.out 0).trans rfl; have hcz34_1 : w31.cell? ⟨gb498, 1, none⟩ = some (.string (⟨#[]⟩ : ByteArray)) := (blk_cell BK498.out 1).trans rfl; have hcz34_2 : w31.cell? ⟨gb498, 2, none⟩ = some (.int .i64 (x4_1.size : Int)) := (blk_cell BK498.out 2).trans rfl; have hfz34_0 := blk_frozen BK498.out 0; have hfz34_1 := blk_frozen BK498.out 1; have hfz34_2 := blk_frozen BK498.out 2) | ((with_reducible refine gate_callee (f := 21) rfl ?_); refine goesL_ (some 65) rfl rfl Try.func21 (by kernel_rfl) rfl #[.string (strOfNums y504)] rfl (by (try simp only [List.map_toArray, List.map_cons, List.map_nil]); first | done | rfl | (simp only [List.length_drop, List.length_take]; rfl)) ?_; (with_reducible refine (quote_Put.calls kj8 (strOfNums y504) t507 _ A25.out).mono ?_); rintro e w35 ⟨rfl, hb⟩; refine ⟨_, rfl, ?_⟩; have n0_ := Aside0.mk (Kd.R_below (by (with_reducible repeat (first | apply Kd.R_alloc | apply Kd.R_drewN | apply Kd.R_drew)); exact (Kd.R_mono (Kd.R_far (p := ⟨gb498, 1, none⟩) (Kd.R_mono HO_5.out (fun k_ hk => (⟨hk, hk.2⟩ : _ ∧ k_ ≠ gb498))) (fun _ hk => hk.2) (.string (strOfNums y504))) (fun _ h_ => h_.1))) hb); have n1_ := Aside0.mk (Kd.R_below (by (with_reducible repeat (first | apply Kd.R_alloc | apply Kd.R_drewN | apply Kd.R_drew)); exact (Kd.R_mono (Kd.R_far (p := ⟨gb498, 1, none⟩) (Kd.R_types HO_6.out BK498.out (by decide)) (fun _ hk => hk.2) (.string (strOfNums y504))) (fun _ h_ => h_.1))) hb); have n2_ := Aside0.mk (Kd.R_below (by (with_reducible repeat (first | apply Kd.R_alloc | apply Kd.R_drewN | apply Kd.R_drew)); exact (Kd.R_mono (Kd.R_far (p := ⟨gb498, 1, none⟩) (Kd.R_types HO506.out BK498.out (by decide)) (fun _ hk => hk.2) (.string (strOfNums y504))) (fun _ h_ => h_.1))) hb); have n3_ := Aside0.mk (blk_below (g := gb498) (o := .cells #[.int .i64 2, .string (strOfNums y504), .int .i64 (x4_1.size : Int)] 33 (0, 0)) (by (with_reducible repeat (first | refine blk_drewN ?_ _ | refine blk_drew ?_ | refine blk_alloc ?_ _)); refine blk_put (cs := #[.int .i64 2, .string (⟨#[]⟩ : ByteArray), .int .i64 (x4_1.size : Int)]) ?_ 1 _ rfl; (with_reducible repeat (first | refine blk_drewN ?_ _ | refine blk_drew ?_ | refine blk_alloc ?_ _)); exact BK498.out) hb); have n4_ := Aside0.mk (below_step (by repeat (first | (with_reducible first | exact HB.out | apply below_alloc | apply pw_below_drewN | apply below_drew1 | refine below_set ?_ GE498.out) | exact HB.out)) hb); clear HO_5; clear HO_6; clear HO506; clear BK498; clear HB; have HO_5 := n0_; have HO_6 := n1_; have HO506 := n2_; have BK498 := n3_; have HB := n4_; clear n0_ n1_ n2_ n3_ n4_; (try clear hb); (try clear hb2); (try clear hk); (try clear hi); have hcz36_0 : w35.cell? ⟨gb498, 0, none⟩ = some (.int .i64 2) := (blk_cell BK498.out 0).trans rfl; have hcz36_1 : w35.cell? ⟨gb498, 1, none⟩ = some (.string (strOfNums y504)) := (blk_cell BK498.out 1).trans rfl; have hcz36_2 : w35.cell? ⟨gb498, 2, none⟩ = some (.int .i64 (x4_1.size : Int)) := (blk_cell BK498.out 2).trans rfl; have hfz36_0 := blk_frozen BK498.out 0; have hfz36_1 := blk_frozen BK498.out 1; have hfz36_2 := blk_frozen BK498.out 2) | ((with_reducible refine gate_builtin (b := .append) (xs := #[.tmp 107, .tmp 109]) rfl ?_); (try (refine gate_guard (by rfl) ?_; dsimp only)); at_builtin; refine Kd.R_append k33 (w0 := w) w.heap.size rfl (.tmp 107) (.tmp 109) 25 33 (.agg #[(.int .i64 0), (.string ⟨#[]⟩), (.int .i64 0)]) 32 rfl Try.underlying25 info33 rfl (by decide) (by omega) u5 x5_1 (⟨2, strOfNums y504, (x4_1.size : Int)⟩ : S33) [.int .i64 2, .string (strOfNums y504), .int .i64 (x4_1.size : Int)] (fun k_ => k_ ≠ gb498) (fun _ => False) rfl rfl ?aP (fun _ hk => hk.elim) ?aF ?aO ?aB ?aS ?aL ?_; (case aP => exact k33_mkM _ _ _ (⟨2, strOfNums y504, (x4_1.size : Int)⟩ : S33)); (case aB => exact (by repeat (first | (with_reducible first | exact HB.out | apply below_alloc | apply pw_below_drewN | apply below_drew1 | refine below_set ?_ GE498.out) | exact HB.out))); (case aF => exact (fun k_ hk => Kd.freshB (g := gb498) (o := .cells #[.int .i64 2, .string (strOfNums y504), .int .i64 (x4_1.size : Int)] 33 (0, 0)) (by (with_reducible repeat (first | refine blk_drewN ?_ _ | refine blk_drew ?_ | refine blk_alloc ?_ _)); exact BK498.out) k_ hk)); (case aO => exact (by (with_reducible repeat (first | apply Kd.R_alloc | apply Kd.R_drewN | apply Kd.R_drew)); exact Kd.R_mono HO_5.out (fun _ hk => hk.2))); (case aS => exact (below_size (by repeat (first | (with_reducible first | exact HB.out | apply below_alloc | apply pw_below_drewN | apply below_drew1 | refine below_set ?_ GE498.out) | exact HB.out)))); (case aL => have := LMc26.out; omega); intro v509 w37 ho hb hg hat; rw [← Ny508.out] at ho; have n0_ := Aside0.mk (Kd.R_over' (by (with_reducible repeat (first | apply Kd.R_alloc | apply Kd.R_drewN | apply Kd.R_drew)); exact HO_6.out) (Kd.R_typed (by (with_reducible repeat (first | apply Kd.R_alloc | apply Kd.R_drewN | apply Kd.R_drew)); exact HO_5.out)) (by decide) hg); have n1_ := Aside0.mk (blk_grown (g := gb498) (o := .cells #[.int .i64 2, .string (strOfNums y504), .int .i64 (x4_1.size : Int)] 33 (0, 0)) (by (with_reducible repeat (first | refine blk_drewN ?_ _ | refine blk_drew ?_ | refine blk_alloc ?_ _)); exact BK498.out) hg (Kd.R_away HO_5.out (fun _ hk => hk.2))); have n2_ := Aside0.mk (Kd.R_over' (by (with_reducible repeat (first | apply Kd.R_alloc | apply Kd.R_drewN | apply Kd.R_drew)); exact HO506.out) (Kd.R_typed (by (with_reducible repeat (first | apply Kd.R_alloc | apply Kd.R_drewN | apply Kd.R_drew)); exact HO_5.out)) (by decide) hg); have n3_ := Aside0.mk (hb); have n4_ := Aside0.mk (ho); clear HO_6; clear BK498; clear HO506; clear HB; clear HO_5; have HO_6 := n0_; have BK498 := n1_; have HO506 := n2_; have HB := n3_; have HO510 := n4_; clear n0_ n1_ n2_ n3_ n4_; clear ho hb hg hat))
                              go_roundg kj8
                              case measure => have := HK1.out; have := HJ8.out; omega
                              case rel => exact ⟨((x4_1 ++ t507) ++ (⟨#[32]⟩ : ByteArray)), (y508), (wrap64 (x7_1 + 1)), (by first | rfl | (simp; done) | (simp [*]; done)), (by first | rfl | (simp; done) | (simp [*]; done)), H', ⟨by have := HK1.out; have := HJ8.out; omega⟩, ⟨by (with_reducible repeat (first | apply Kd.R_alloc | apply Kd.R_drewN | apply Kd.R_drew)); exact Kd.R_mono HO510.out (fun _ hk => trivial)⟩, ⟨by (with_reducible repeat (first | apply Kd.R_alloc | apply Kd.R_drewN | apply Kd.R_drew)); exact HO_6.out⟩, ⟨by repeat (first | (with_reducible first | exact HB.out | apply below_alloc | apply pw_below_drewN | apply below_drew1 | refine below_set ?_ GE498.out) | exact HB.out)⟩⟩
                            · rw [if_neg c28] at H
                              exact absurd H (by simp)
                          · rw [if_neg c27] at H
                            exact absurd H (by simp)
                        · rw [if_neg c26] at H
                          exact absurd H (by simp)
                      · rw [if_neg c24] at H
                        have c24b0 : ((Int.tmod (wrap64 (rd l0 x7_1)) 4) == 1) = false := beq_eq_false_iff_ne.mpr c24
                        have c24b1 : ((Int.tmod (wrap64 (rd l0 x7_1)) 4) != 1) = true := bne_iff_ne.mpr c24
                        by_cases c38 : (Int.tmod (wrap64 (rd l0 x7_1)) 4) = 2
                        · rw [if_pos c38] at H
                          have c38b0 : ((Int.tmod (wrap64 (rd l0 x7_1)) 4) == 2) = true := beq_iff_eq.mpr c38
                          have c38b1 : ((Int.tmod (wrap64 (rd l0 x7_1)) 4) != 2) = false := bne_eq_false_iff_eq.mpr c38
                          clear c38
                          obtain ⟨y513, hy513⟩ : ∃ y_ : List Int, y_ = (([(97 + (Int.tmod (rd l0 x7_1) 26)) % 256, 95, (48 + (Int.tmod (rd l0 x7_1) 10)) % 256] : List Int)) := ⟨_, rfl⟩
                          replace H : (if 1 + (strOfNums y513).size ≤ 9223372036854775807 then (if x5_1.length < 4398046511104 then (if x4_1.size + ((⟨#[110]⟩ : ByteArray) ++ (strOfNums y513)).size ≤ 9223372036854775807 then (if (x4_1 ++ ((⟨#[110]⟩ : ByteArray) ++ (strOfNums y513))).size + 1 ≤ 9223372036854775807 then (archivistlaw07_LexApart.l0 kj8 l0 true ((x4_1 ++ ((⟨#[110]⟩ : ByteArray) ++ (strOfNums y513))) ++ (⟨#[32]⟩ : ByteArray)) (x5_1 ++ [(⟨1, (⟨#[110]⟩ : ByteArray) ++ (strOfNums y513), (x4_1.size : Int)⟩ : S33)]) t494 (wrap64 (x7_1 + 1))) else (none)) else (none)) else (none)) else (none)) = some r := by first | (rw [hy513]; with_reducible exact H) | (have H2_ := (Option.bind_some _ _).symm.trans H; rw [hy513]; with_reducible exact H2_) | (have H2_ := (Option.bind_some _ _).symm.trans H; with_reducible exact H2_) | with_reducible exact H | (rw [hy513]; exact H) | exact H
                          have Ny513 := Aside0.mk hy513
                          clear hy513
                          by_cases c39 : 1 + (strOfNums y513).size ≤ 9223372036854775807
                          · rw [if_pos c39] at H
                            have c39b0 := eq_true c39
                            have c39b1 : decide (1 + (strOfNums y513).size ≤ 9223372036854775807) = true := decide_eq_true c39
                            try have c39b2 : (9223372036854775807 < 1 + (strOfNums y513).size) = False := eq_false (Nat.not_lt.2 c39)
                            by_cases c40 : x5_1.length < 4398046511104
                            · rw [if_pos c40] at H
                              have LMc40 := Aside0.mk c40
                              clear c40
                              obtain ⟨y516, hy516⟩ : ∃ y_ : List (S33), y_ = (x5_1 ++ [(⟨1, (⟨#[110]⟩ : ByteArray) ++ (strOfNums y513), (x4_1.size : Int)⟩ : S33)]) := ⟨_, rfl⟩
                              replace H : (if x4_1.size + ((⟨#[110]⟩ : ByteArray) ++ (strOfNums y513)).size ≤ 9223372036854775807 then (if (x4_1 ++ ((⟨#[110]⟩ : ByteArray) ++ (strOfNums y513))).size + 1 ≤ 9223372036854775807 then (archivistlaw07_LexApart.l0 kj8 l0 true ((x4_1 ++ ((⟨#[110]⟩ : ByteArray) ++ (strOfNums y513))) ++ (⟨#[32]⟩ : ByteArray)) y516 t494 (wrap64 (x7_1 + 1))) else (none)) else (none)) = some r := by first | (rw [hy516]; with_reducible exact H) | (have H2_ := (Option.bind_some _ _).symm.trans H; rw [hy516]; with_reducible exact H2_) | (have H2_ := (Option.bind_some _ _).symm.trans H; with_reducible exact H2_) | with_reducible exact H | (rw [hy516]; exact H) | exact H
                              have Ny516 := Aside0.mk hy516
                              clear hy516
                              by_cases c41 : x4_1.size + ((⟨#[110]⟩ : ByteArray) ++ (strOfNums y513)).size ≤ 9223372036854775807
                              · rw [if_pos c41] at H
                                have c41b0 := eq_true c41
                                have c41b1 : decide (x4_1.size + ((⟨#[110]⟩ : ByteArray) ++ (strOfNums y513)).size ≤ 9223372036854775807) = true := decide_eq_true c41
                                try have c41b2 : (9223372036854775807 < x4_1.size + ((⟨#[110]⟩ : ByteArray) ++ (strOfNums y513)).size) = False := eq_false (Nat.not_lt.2 c41)
                                try (have c41b3 : (9223372036854775807 < x4_1.size + ((⟨#[110]⟩ : ByteArray) ++ (strOfNums y513)).size) = False := eq_false (Nat.not_lt.2 c41); simp only [ByteArray.size_append, show (⟨#[110]⟩ : ByteArray).size = 1 from rfl, Nat.add_zero, Nat.zero_add] at c41b3)
                                by_cases c42 : (x4_1 ++ ((⟨#[110]⟩ : ByteArray) ++ (strOfNums y513))).size + 1 ≤ 9223372036854775807
                                · rw [if_pos c42] at H
                                  have c42b0 := eq_true c42
                                  have c42b1 : decide ((x4_1 ++ ((⟨#[110]⟩ : ByteArray) ++ (strOfNums y513))).size + 1 ≤ 9223372036854775807) = true := decide_eq_true c42
                                  try have c42b2 : (9223372036854775807 < (x4_1 ++ ((⟨#[110]⟩ : ByteArray) ++ (strOfNums y513))).size + 1) = False := eq_false (Nat.not_lt.2 c42)
                                  try (have c42b3 : (9223372036854775807 < (x4_1 ++ ((⟨#[110]⟩ : ByteArray) ++ (strOfNums y513))).size + 1) = False := eq_false (Nat.not_lt.2 c42); simp only [ByteArray.size_append, show (⟨#[110]⟩ : ByteArray).size = 1 from rfl, Nat.add_zero, Nat.zero_add] at c42b3)
                                  have H' := Aside0.mk H
                                  clear H
                                  have p497 : 0 ≤ (x7_1 : Int) := of_decide_eq_true (by first | (with_reducible assumption) | assumption)
                                  have q497 : x7_1 < (l0.length : Int) := of_decide_eq_true (by first | (with_reducible assumption) | assumption)
                                  obtain ⟨ad497, e497, hx497_0⟩ := Kd.at_int HR0.out x7_1 p497 q497
                                  cases e497
                                  replace hx497_0 := (HB.out.cell (World.block_lt_of_cell? w _ hx497_0)).trans hx497_0
                                  replace p497 := eq_true p497
                                  replace q497 := eq_true q497
                                  try go_wp2_with (first | ((with_reducible refine gate_dst (N := 9) rfl ?_); (try (refine gate_guard (by rfl) ?_; dsimp only)); refine box_event ?hg (N := 9) ?hd (cs := #[.int .i64 0, .string (⟨#[]⟩ : ByteArray), .int .i64 0]) (t := 33) ?hr ?_; (case hd => rfl); (case hg => rfl); (case hr => first | (go_simp; done) | (go_simp; rfl)); intro gb498 hg w43 hbox hb; have n0_ := Aside0.mk (Kd.R_below (Kd.R_elderB (by (with_reducible repeat (first | apply Kd.R_alloc | apply Kd.R_drewN | apply Kd.R_drew)); exact HO_5.out) gb498 (Nat.le_of_eq hg.symm)) hb); have n1_ := Aside0.mk (Kd.R_below (by (with_reducible repeat (first | apply Kd.R_alloc | apply Kd.R_drewN | apply Kd.R_drew)); exact HO_6.out) hb); have n2_ := Aside0.mk (below_step (by repeat (first | (with_reducible first | exact HB.out | apply below_alloc | apply pw_below_drewN | apply below_drew1) | exact HB.out)) hb); have n3_ := Aside0.mk (hbox); have n4_ := Aside0.mk ((by rw [hg]; exact (below_size (by repeat (first | (with_reducible first | exact HB.out | apply below_alloc | apply pw_below_drewN | apply below_drew1) | exact HB.out))) : w.heap.size ≤ gb498)); have n5_ := Aside0.mk ((by rw [hg]; exact (below_size (by repeat (first | (with_reducible first | exact HB.out | apply below_alloc | apply pw_below_drewN | apply below_drew1) | exact HB.out))) : w.heap.size ≤ gb498)); clear HO_5; clear HO_6; clear HB; have HO_5 := n0_; have HO_6 := n1_; have HB := n2_; have BK498 := n3_; have GW498 := n4_; have GE498 := n5_; clear n0_ n1_ n2_ n3_ n4_ n5_; clear hb hbox hg; have hcz44_0 : w43.cell? ⟨gb498, 0, none⟩ = some (.int .i64 0) := (blk_cell BK498.out 0).trans rfl; have hcz44_1 : w43.cell? ⟨gb498, 1, none⟩ = some (.string (⟨#[]⟩ : ByteArray)) := (blk_cell BK498.out 1).trans rfl; have hcz44_2 : w43.cell? ⟨gb498, 2, none⟩ = some (.int .i64 0) := (blk_cell BK498.out 2).trans rfl; have hfz44_0 := blk_frozen BK498.out 0; have hfz44_1 := blk_frozen BK498.out 1; have hfz44_2 := blk_frozen BK498.out 2))
                                  have n0_ : Aside0 (Kd.R k33 33 ((((w43.setCell ⟨gb498, 0, none⟩ (.int .i64 4)).setCell ⟨gb498, 1, none⟩ (.string (⟨#[]⟩ : ByteArray))).setCell ⟨gb498, 2, none⟩ (.int .i64 (x4_1.size : Int))).setCell ⟨gb498, 0, none⟩ (.int .i64 1)) w.heap.size (fun k_ => k_ ≠ gb498) u5 x5_1) := ⟨by (with_reducible repeat (first | apply Kd.R_alloc | apply Kd.R_drewN | apply Kd.R_drew)); exact Kd.R_mono (Kd.R_far (p := ⟨gb498, 0, none⟩) (Kd.R_far (p := ⟨gb498, 2, none⟩) (Kd.R_far (p := ⟨gb498, 1, none⟩) (Kd.R_far (p := ⟨gb498, 0, none⟩) (Kd.R_mono HO_5.out (fun k_ hk => (⟨hk, hk.2⟩ : _ ∧ k_ ≠ gb498))) (fun _ hk => hk.2) (.int .i64 4)) (fun _ hk => hk.2) (.string (⟨#[]⟩ : ByteArray))) (fun _ hk => hk.2) (.int .i64 (x4_1.size : Int))) (fun _ hk => hk.2) (.int .i64 1)) (fun _ hk => hk.1.2)⟩
                                  have n1_ : Aside0 (Kd.R Kd.string 9 ((((w43.setCell ⟨gb498, 0, none⟩ (.int .i64 4)).setCell ⟨gb498, 1, none⟩ (.string (⟨#[]⟩ : ByteArray))).setCell ⟨gb498, 2, none⟩ (.int .i64 (x4_1.size : Int))).setCell ⟨gb498, 0, none⟩ (.int .i64 1)) w.heap.size (fun _ => True) (.slice Ao8 t494.length co8) t494) := ⟨by (with_reducible repeat (first | apply Kd.R_alloc | apply Kd.R_drewN | apply Kd.R_drew)); exact Kd.R_mono (Kd.R_far (p := ⟨gb498, 0, none⟩) (Kd.R_far (p := ⟨gb498, 2, none⟩) (Kd.R_far (p := ⟨gb498, 1, none⟩) (Kd.R_far (p := ⟨gb498, 0, none⟩) (Kd.R_types HO_6.out BK498.out (by decide)) (fun _ hk => hk.2) (.int .i64 4)) (fun _ hk => hk.2) (.string (⟨#[]⟩ : ByteArray))) (fun _ hk => hk.2) (.int .i64 (x4_1.size : Int))) (fun _ hk => hk.2) (.int .i64 1)) (fun _ hk => trivial)⟩
                                  have n2_ : Aside0 (((((w43.setCell ⟨gb498, 0, none⟩ (.int .i64 4)).setCell ⟨gb498, 1, none⟩ (.string (⟨#[]⟩ : ByteArray))).setCell ⟨gb498, 2, none⟩ (.int .i64 (x4_1.size : Int))).setCell ⟨gb498, 0, none⟩ (.int .i64 1)).heap[gb498]? = some (.cells #[.int .i64 1, .string (⟨#[]⟩ : ByteArray), .int .i64 (x4_1.size : Int)] 33 (0, 0))) := ⟨by (with_reducible repeat (first | refine blk_drewN ?_ _ | refine blk_drew ?_ | refine blk_alloc ?_ _)); refine blk_put (cs := #[.int .i64 4, .string (⟨#[]⟩ : ByteArray), .int .i64 (x4_1.size : Int)]) ?_ 0 _ rfl; (with_reducible repeat (first | refine blk_drewN ?_ _ | refine blk_drew ?_ | refine blk_alloc ?_ _)); refine blk_put (cs := #[.int .i64 4, .string (⟨#[]⟩ : ByteArray), .int .i64 0]) ?_ 2 _ rfl; (with_reducible repeat (first | refine blk_drewN ?_ _ | refine blk_drew ?_ | refine blk_alloc ?_ _)); refine blk_put (cs := #[.int .i64 4, .string (⟨#[]⟩ : ByteArray), .int .i64 0]) ?_ 1 _ rfl; (with_reducible repeat (first | refine blk_drewN ?_ _ | refine blk_drew ?_ | refine blk_alloc ?_ _)); refine blk_put (cs := #[.int .i64 0, .string (⟨#[]⟩ : ByteArray), .int .i64 0]) ?_ 0 _ rfl; (with_reducible repeat (first | refine blk_drewN ?_ _ | refine blk_drew ?_ | refine blk_alloc ?_ _)); exact BK498.out⟩
                                  have n3_ : Aside0 (Below w.heap.size w ((((w43.setCell ⟨gb498, 0, none⟩ (.int .i64 4)).setCell ⟨gb498, 1, none⟩ (.string (⟨#[]⟩ : ByteArray))).setCell ⟨gb498, 2, none⟩ (.int .i64 (x4_1.size : Int))).setCell ⟨gb498, 0, none⟩ (.int .i64 1))) := ⟨by repeat (first | (with_reducible first | exact HB.out | apply below_alloc | apply pw_below_drewN | apply below_drew1 | refine below_set ?_ GE498.out) | exact HB.out)⟩
                                  (try clear HO_5)
                                  (try clear HO_6)
                                  (try clear BK498)
                                  (try clear HB)
                                  generalize ((((w43.setCell ⟨gb498, 0, none⟩ (.int .i64 4)).setCell ⟨gb498, 1, none⟩ (.string (⟨#[]⟩ : ByteArray))).setCell ⟨gb498, 2, none⟩ (.int .i64 (x4_1.size : Int))).setCell ⟨gb498, 0, none⟩ (.int .i64 1)) = w45 at n0_ n1_ n2_ n3_ ⊢
                                  have HO_5 := n0_
                                  have HO_6 := n1_
                                  have BK498 := n2_
                                  have HB := n3_
                                  clear n0_ n1_ n2_ n3_
                                  have n0_ := Aside0.mk (Kd.R_drew HO_5.out)
                                  have n1_ := Aside0.mk (Kd.R_drew HO_6.out)
                                  have n2_ := Aside0.mk (blk_drew BK498.out)
                                  have n3_ := Aside0.mk (below_drew1 HB.out)
                                  clear HO_5
                                  clear HO_6
                                  clear BK498
                                  clear HB
                                  have HO_5 := n0_
                                  have HO_6 := n1_
                                  have BK498 := n2_
                                  have HB := n3_
                                  clear n0_ n1_ n2_ n3_
                                  have p511 : 0 ≤ (x7_1 : Int) := of_decide_eq_true (by first | (with_reducible assumption) | assumption)
                                  have q511 : x7_1 < (l0.length : Int) := of_decide_eq_true (by first | (with_reducible assumption) | assumption)
                                  obtain ⟨ad511, e511, hx511_0⟩ := Kd.at_int HR0.out x7_1 p511 q511
                                  have hw511_0 := hx511_0
                                  obtain rfl : ad497 = ad511 := (by injection e511)
                                  replace hx511_0 := (HB.out.cell (World.block_lt_of_cell? w _ hx511_0)).trans hx511_0
                                  replace p511 := eq_true p511
                                  replace q511 := eq_true q511
                                  have p512 : 0 ≤ (x7_1 : Int) := of_decide_eq_true (by first | (with_reducible assumption) | assumption)
                                  have q512 : x7_1 < (l0.length : Int) := of_decide_eq_true (by first | (with_reducible assumption) | assumption)
                                  obtain ⟨ad512, e512, hx512_0⟩ := Kd.at_int HR0.out x7_1 p512 q512
                                  have hw512_0 := hx512_0
                                  obtain rfl : ad497 = ad512 := (by injection e512)
                                  replace hx512_0 := (HB.out.cell (World.block_lt_of_cell? w _ hx512_0)).trans hx512_0
                                  replace p512 := eq_true p512
                                  replace q512 := eq_true q512
                                  refine start_ (n := 17) (S := fun w' => w'.cell? (ad497.add (x7_1).toNat) = some (.int .u8 (rd l0 x7_1)) ∧ w'.cell? (ad497.add (x7_1).toNat) = some (.int .u8 (rd l0 x7_1))) (ds := []) #[false, false, false, false, false, false, false, false, false, false, false, false, false, false, false, false, false] (by kernel_rfl) rfl rfl ⟨((HB.out.cell (World.block_lt_of_cell? w _ hw511_0)).trans hw511_0), ((HB.out.cell (World.block_lt_of_cell? w _ hw512_0)).trans hw512_0)⟩ (fun hHeld => ?_); refine with_tabW archivistlaw07_LexApart.tab25 archivistlaw07_LexApart.bits25 (fun HT_ HW_ => ?_)
                                  generalize w45.drew = w46 at HO_5 HO_6 BK498 HB hx511_0 hx512_0 hHeld ⊢
                                  refine pure_ (i := 0) (N := some 69) (v := ?_) (a' := ?_) #[true, false, false, false, false, false, false, false, false, false, false, false, false, false, false, false, false] rfl rfl (any_of HT_.out (by kernel_rfl)) (fun _ _ _ h => h) (Or.inl ⟨by rfl, ?_⟩) ?_ ?_
                                  rotate_left
                                  · intro w'
                                    go_simp
                                    with_reducible rfl
                                  rotate_left
                                  · simp only [Act.put, List.setIfInBounds_toArray, List.set_cons_zero, List.set_cons_succ, i64_w, i32_w]
                                    rfl
                                  refine pure_ (i := 1) (N := some 70) (v := ?_) (a' := ?_) #[true, true, false, false, false, false, false, false, false, false, false, false, false, false, false, false, false] rfl rfl (any_of HT_.out (by kernel_rfl)) (fun _ _ _ h => h) (Or.inl ⟨by rfl, ?_⟩) ?_ ?_
                                  rotate_left
                                  · intro w'
                                    go_simp
                                    with_reducible rfl
                                  rotate_left
                                  · simp only [Act.put, List.setIfInBounds_toArray, List.set_cons_zero, List.set_cons_succ, i64_w, i32_w]
                                    rfl
                                  refine pure_ (i := 2) (N := some 71) (v := ?_) (a' := ?_) #[true, true, true, false, false, false, false, false, false, false, false, false, false, false, false, false, false] rfl rfl (any_of HT_.out (by kernel_rfl)) (fun _ _ _ h => h) (Or.inl ⟨by rfl, ?_⟩) ?_ ?_
                                  rotate_left
                                  · intro w'
                                    go_simp
                                    with_reducible rfl
                                  rotate_left
                                  · simp only [Act.put, List.setIfInBounds_toArray, List.set_cons_zero, List.set_cons_succ, i64_w, i32_w]
                                    rfl
                                  refine pure_ (i := 6) (N := some 75) (v := ?_) (a' := ?_) #[true, true, true, false, false, false, true, false, false, false, false, false, false, false, false, false, false] rfl rfl (any_of HT_.out (by kernel_rfl)) (fun _ _ _ h => h) (Or.inl ⟨by rfl, ?_⟩) ?_ ?_
                                  rotate_left
                                  · intro w'
                                    go_simp
                                    with_reducible rfl
                                  rotate_left
                                  · simp only [Act.put, List.setIfInBounds_toArray, List.set_cons_zero, List.set_cons_succ, i64_w, i32_w]
                                    rfl
                                  refine pure_ (i := 7) (N := some 76) (v := ?_) (a' := ?_) #[true, true, true, false, false, false, true, true, false, false, false, false, false, false, false, false, false] rfl rfl (any_of HT_.out (by kernel_rfl)) (fun _ _ _ h => h) (Or.inl ⟨by rfl, ?_⟩) ?_ ?_
                                  rotate_left
                                  · intro w'
                                    go_simp
                                    with_reducible rfl
                                  rotate_left
                                  · simp only [Act.put, List.setIfInBounds_toArray, List.set_cons_zero, List.set_cons_succ, i64_w, i32_w]
                                    rfl
                                  refine pure_ (i := 8) (N := some 77) (v := ?_) (a' := ?_) #[true, true, true, false, false, false, true, true, true, false, false, false, false, false, false, false, false] rfl rfl (any_of HT_.out (by kernel_rfl)) (fun _ _ _ h => h) (Or.inl ⟨by rfl, ?_⟩) ?_ ?_
                                  rotate_left
                                  · intro w'
                                    go_simp
                                    with_reducible rfl
                                  rotate_left
                                  · simp only [Act.put, List.setIfInBounds_toArray, List.set_cons_zero, List.set_cons_succ, i64_w, i32_w]
                                    rfl
                                  refine take_ (i := 3) (N := some 72) (v := ?_) (a' := ?_) #[true, true, true, true, false, false, true, true, true, false, false, false, false, false, false, false, false] rfl rfl (take_ofW HT_.out HW_.out (by kernel_rfl)) (fun _ _ _ h => h) (Or.inl ⟨by rfl, ?_⟩) hHeld ?_ ?_
                                  rotate_left
                                  · rintro w' ⟨s0, s1⟩
                                    go_simp
                                    with_reducible rfl
                                  rotate_left
                                  · simp only [Act.put, List.setIfInBounds_toArray, List.set_cons_zero, List.set_cons_succ, i64_w, i32_w]
                                    rfl
                                  refine pure_ (i := 4) (N := some 73) (v := ?_) (a' := ?_) #[true, true, true, true, true, false, true, true, true, false, false, false, false, false, false, false, false] rfl rfl (any_of HT_.out (by kernel_rfl)) (fun _ _ _ h => h) (Or.inl ⟨by rfl, ?_⟩) ?_ ?_
                                  rotate_left
                                  · intro w'
                                    go_simp
                                    with_reducible rfl
                                  rotate_left
                                  · simp only [Act.put, List.setIfInBounds_toArray, List.set_cons_zero, List.set_cons_succ, i64_w, i32_w]
                                    rfl
                                  refine pure_ (i := 5) (N := some 74) (v := ?_) (a' := ?_) #[true, true, true, true, true, true, true, true, true, false, false, false, false, false, false, false, false] rfl rfl (any_of HT_.out (by kernel_rfl)) (fun _ _ _ h => h) (Or.inl ⟨by rfl, ?_⟩) ?_ ?_
                                  rotate_left
                                  · intro w'
                                    go_simp
                                    with_reducible rfl
                                  rotate_left
                                  · simp only [Act.put, List.setIfInBounds_toArray, List.set_cons_zero, List.set_cons_succ, i64_w, i32_w]
                                    rfl
                                  refine take_ (i := 9) (N := some 78) (v := ?_) (a' := ?_) #[true, true, true, true, true, true, true, true, true, true, false, false, false, false, false, false, false] rfl rfl (take_ofW HT_.out HW_.out (by kernel_rfl)) (fun _ _ _ h => h) (Or.inl ⟨by rfl, ?_⟩) hHeld ?_ ?_
                                  rotate_left
                                  · rintro w' ⟨s0, s1⟩
                                    go_simp
                                    with_reducible rfl
                                  rotate_left
                                  · simp only [Act.put, List.setIfInBounds_toArray, List.set_cons_zero, List.set_cons_succ, i64_w, i32_w]
                                    rfl
                                  refine pure_ (i := 10) (N := some 79) (v := ?_) (a' := ?_) #[true, true, true, true, true, true, true, true, true, true, true, false, false, false, false, false, false] rfl rfl (any_of HT_.out (by kernel_rfl)) (fun _ _ _ h => h) (Or.inl ⟨by rfl, ?_⟩) ?_ ?_
                                  rotate_left
                                  · intro w'
                                    go_simp
                                    with_reducible rfl
                                  rotate_left
                                  · simp only [Act.put, List.setIfInBounds_toArray, List.set_cons_zero, List.set_cons_succ, i64_w, i32_w]
                                    rfl
                                  refine pure_ (i := 11) (N := some 80) (v := ?_) (a' := ?_) #[true, true, true, true, true, true, true, true, true, true, true, true, false, false, false, false, false] rfl rfl (any_of HT_.out (by kernel_rfl)) (fun _ _ _ h => h) (Or.inl ⟨by rfl, ?_⟩) ?_ ?_
                                  rotate_left
                                  · intro w'
                                    go_simp
                                    with_reducible rfl
                                  rotate_left
                                  · simp only [Act.put, List.setIfInBounds_toArray, List.set_cons_zero, List.set_cons_succ, i64_w, i32_w]
                                    rfl
                                  refine one_ (i := 12) (N := some 81) #[true, true, true, true, true, true, true, true, true, true, true, true, true, false, false, false, false] rfl rfl (one_of HT_.out (by kernel_rfl)) (by decide) (fun K hK => ?_)
                                  refine Kd.R_lit_step (Kd.int .u8) _ 5 ?hg (N := 81) ?hd (xs := ([(97 + (Int.tmod (rd l0 x7_1) 26)) % 256, 95, (48 + (Int.tmod (rd l0 x7_1) 10)) % 256] : List Int)) (inner := [.int .u8 ((97 + (Int.tmod (rd l0 x7_1) 26)) % 256), .int .u8 95, .int .u8 ((48 + (Int.tmod (rd l0 x7_1) 10)) % 256)]) (ok := fun _ => True) (okp := fun _ => True) ?hr ?hp (fun _ hk => hk) trivial (Below.refl _ _) (Nat.le_refl _) (by simp) ?_; (case hd => rfl); (case hg => rfl); (case hr => first | (go_simp; done) | (go_simp; rfl)); (case hp => exact (Reps.one (show Kd.M (Kd.int .u8) _ _ _ ((97 + (Int.tmod (rd l0 x7_1) 26)) % 256) [.int .u8 ((97 + (Int.tmod (rd l0 x7_1) 26)) % 256)] from rfl) (Reps.one (show Kd.M (Kd.int .u8) _ _ _ 95 [.int .u8 95] from rfl) (Reps.one (show Kd.M (Kd.int .u8) _ _ _ ((48 + (Int.tmod (rd l0 x7_1) 10)) % 256) [.int .u8 ((48 + (Int.tmod (rd l0 x7_1) 10)) % 256)] from rfl) (Reps.none _ _)))))
                                  intro v514 w47 ho48 hb hg_ hnew_
                                  clear hg_ hnew_
                                  (first | rw [← Ny513.out] at ho48 | (simp only [Int.reduceToNat] at ho48; rw [← Ny513.out] at ho48))
                                  have n0_ := Aside0.mk (Kd.R_below (by (with_reducible repeat (first | apply Kd.R_alloc | apply Kd.R_drewN | apply Kd.R_drew)); exact HO_5.out) hb)
                                  have n1_ := Aside0.mk (Kd.R_below (by (with_reducible repeat (first | apply Kd.R_alloc | apply Kd.R_drewN | apply Kd.R_drew)); exact HO_6.out) hb)
                                  have n2_ := Aside0.mk (Kd.R_lower ho48 (below_size (by repeat (first | (with_reducible first | exact HB.out | apply below_alloc | apply pw_below_drewN | apply below_drew1 | refine below_set ?_ GE498.out) | exact HB.out))))
                                  have n3_ := Aside0.mk (blk_below (g := gb498) (o := .cells #[.int .i64 1, .string (⟨#[]⟩ : ByteArray), .int .i64 (x4_1.size : Int)] 33 (0, 0)) (by (with_reducible repeat (first | refine blk_drewN ?_ _ | refine blk_drew ?_ | refine blk_alloc ?_ _)); exact BK498.out) hb)
                                  have n4_ := Aside0.mk (below_step (by repeat (first | (with_reducible first | exact HB.out | apply below_alloc | apply pw_below_drewN | apply below_drew1 | refine below_set ?_ GE498.out) | exact HB.out)) hb)
                                  clear HO_5
                                  clear HO_6
                                  clear BK498
                                  clear HB
                                  have HO_5 := n0_
                                  have HO_6 := n1_
                                  have HO515 := n2_
                                  have BK498 := n3_
                                  have HB := n4_
                                  clear n0_ n1_ n2_ n3_ n4_
                                  clear hb ho48
                                  refine hK.out _ _ ⟨((HB.out.cell (World.block_lt_of_cell? w _ hw511_0)).trans hw511_0), ((HB.out.cell (World.block_lt_of_cell? w _ hw512_0)).trans hw512_0)⟩ (fun hHeld => ?_)
                                  clear hK K
                                  refine norm_ (a' := ?_) ?_ ?_
                                  rotate_left
                                  · show Act.put _ (some 81) _ = _
                                    simp only [Act.put, List.setIfInBounds_toArray, List.set_cons_zero, List.set_cons_succ, i64_w, i32_w]
                                    rfl
                                  refine one_ (i := 13) (N := some 82) #[true, true, true, true, true, true, true, true, true, true, true, true, true, true, false, false, false] rfl rfl (one_of HT_.out (by kernel_rfl)) (by decide) (fun K hK => ?_)
                                  have hcv49 := own_string (P := Try.prog) Try.underlying22 Try.underlying5 Try.underlying9 (Kd.own_of_R HO515.out)
                                  refine value_ (w1 := ?_) (v := ?_) (by rfl) rfl ?_ ?_
                                  rotate_left 2
                                  · go_simp
                                    constructor
                                    · rfl
                                    · rfl
                                  clear hcv49
                                  refine hK.out _ _ ⟨((HB.out.cell (World.block_lt_of_cell? w _ hw511_0)).trans hw511_0), ((HB.out.cell (World.block_lt_of_cell? w _ hw512_0)).trans hw512_0)⟩ (fun hHeld => ?_)
                                  clear hK K
                                  refine norm_ (a' := ?_) ?_ ?_
                                  rotate_left
                                  · show Act.put _ (some 82) _ = _
                                    simp only [Act.put, List.setIfInBounds_toArray, List.set_cons_zero, List.set_cons_succ, i64_w, i32_w]
                                    rfl
                                  refine pure_ (i := 14) (N := some 83) (v := ?_) (a' := ?_) #[true, true, true, true, true, true, true, true, true, true, true, true, true, true, true, false, false] rfl rfl (any_of HT_.out (by kernel_rfl)) (fun _ _ _ h => h) (Or.inl ⟨by rfl, ?_⟩) ?_ ?_
                                  rotate_left
                                  · intro w'
                                    go_simp
                                    with_reducible rfl
                                  rotate_left
                                  · simp only [Act.put, List.setIfInBounds_toArray, List.set_cons_zero, List.set_cons_succ, i64_w, i32_w]
                                    rfl
                                  refine pure_ (i := 15) (N := some 84) (v := ?_) (a' := ?_) #[true, true, true, true, true, true, true, true, true, true, true, true, true, true, true, true, false] rfl rfl (any_of HT_.out (by kernel_rfl)) (fun _ _ _ h => h) (Or.inl ⟨by rfl, ?_⟩) ?_ ?_
                                  rotate_left
                                  · intro w'
                                    go_simp
                                    with_reducible rfl
                                  rotate_left
                                  · simp only [Act.put, List.setIfInBounds_toArray, List.set_cons_zero, List.set_cons_succ, i64_w, i32_w]
                                    rfl
                                  refine one_ (i := 16) (N := none) #[true, true, true, true, true, true, true, true, true, true, true, true, true, true, true, true, true] rfl rfl (one_of HT_.out (by kernel_rfl)) (by decide) (fun K hK => ?_)
                                  have hs50 : w47.cell? ⟨gb498, 1, none⟩ = some (.string (⟨#[]⟩ : ByteArray)) := (blk_cell BK498.out 1).trans rfl
                                  have hfs50 := blk_frozen BK498.out 1
                                  refine skip_ (w1 := ?_) (by rfl) rfl ?_ ?_
                                  rotate_left
                                  · go_simp
                                    rfl
                                  refine hK.out _ _ ⟨((cell_far (p := ⟨gb498, _, none⟩) (by first | exact Nat.ne_of_lt (Nat.lt_of_lt_of_le (by have := World.block_lt_of_cell? _ _ hw511_0; first | rwa [add_block] at this | exact this) GW498.out) | (rw [add_block]; exact Nat.ne_of_lt (Nat.lt_of_lt_of_le (by have := World.block_lt_of_cell? _ _ hw511_0; first | rwa [add_block] at this | exact this) GW498.out)) | (show (Addr.add _ _).block ≠ _; rw [add_block]; exact Nat.ne_of_lt (Nat.lt_of_lt_of_le (by have := World.block_lt_of_cell? _ _ hw511_0; first | rwa [add_block] at this | exact this) GW498.out)) | (dsimp only; exact Nat.ne_of_lt (Nat.lt_of_lt_of_le (by have := World.block_lt_of_cell? _ _ hw511_0; first | rwa [add_block] at this | exact this) GW498.out))) _).trans (hHeld.1)), ((cell_far (p := ⟨gb498, _, none⟩) (by first | exact Nat.ne_of_lt (Nat.lt_of_lt_of_le (by have := World.block_lt_of_cell? _ _ hw512_0; first | rwa [add_block] at this | exact this) GW498.out) | (rw [add_block]; exact Nat.ne_of_lt (Nat.lt_of_lt_of_le (by have := World.block_lt_of_cell? _ _ hw512_0; first | rwa [add_block] at this | exact this) GW498.out)) | (show (Addr.add _ _).block ≠ _; rw [add_block]; exact Nat.ne_of_lt (Nat.lt_of_lt_of_le (by have := World.block_lt_of_cell? _ _ hw512_0; first | rwa [add_block] at this | exact this) GW498.out)) | (dsimp only; exact Nat.ne_of_lt (Nat.lt_of_lt_of_le (by have := World.block_lt_of_cell? _ _ hw512_0; first | rwa [add_block] at this | exact this) GW498.out))) _).trans (hHeld.2))⟩ (fun hHeld => ?_)
                                  clear hK K
                                  refine done_ (done_of HT_.out (by kernel_rfl)) ?_
                                  have hcz51_0 : w47.cell? ⟨gb498, 0, none⟩ = some (.int .i64 1) := (blk_cell BK498.out 0).trans rfl
                                  have hcz51_1 : w47.cell? ⟨gb498, 1, none⟩ = some (.string (⟨#[]⟩ : ByteArray)) := (blk_cell BK498.out 1).trans rfl
                                  have hcz51_2 : w47.cell? ⟨gb498, 2, none⟩ = some (.int .i64 (x4_1.size : Int)) := (blk_cell BK498.out 2).trans rfl
                                  have hfz51_0 := blk_frozen BK498.out 0
                                  have hfz51_1 := blk_frozen BK498.out 1
                                  have hfz51_2 := blk_frozen BK498.out 2
                                  try go_wp2_with (first | ((with_reducible refine gate_builtin (b := .append) (xs := #[.tmp 107, .tmp 109]) rfl ?_); (try (refine gate_guard (by rfl) ?_; dsimp only)); at_builtin; refine Kd.R_append k33 (w0 := w) w.heap.size rfl (.tmp 107) (.tmp 109) 25 33 (.agg #[(.int .i64 0), (.string ⟨#[]⟩), (.int .i64 0)]) 32 rfl Try.underlying25 info33 rfl (by decide) (by omega) u5 x5_1 (⟨1, (⟨#[110]⟩ : ByteArray) ++ (strOfNums y513), (x4_1.size : Int)⟩ : S33) [.int .i64 1, .string ((⟨#[110]⟩ : ByteArray) ++ (strOfNums y513)), .int .i64 (x4_1.size : Int)] (fun k_ => k_ ≠ gb498) (fun _ => False) rfl (by first | (go_simp; done) | (go_simp; rfl)) ?aP (fun _ hk => hk.elim) ?aF ?aO ?aB ?aS ?aL ?_; (case aP => exact k33_mkM _ _ _ (⟨1, (⟨#[110]⟩ : ByteArray) ++ (strOfNums y513), (x4_1.size : Int)⟩ : S33)); (case aB => exact (by repeat (first | (with_reducible first | exact HB.out | apply below_alloc | apply pw_below_drewN | apply below_drew1 | refine below_set ?_ GE498.out) | exact HB.out))); (case aF => exact (fun k_ hk => Kd.freshB (g := gb498) (o := .cells #[.int .i64 1, .string ((⟨#[110]⟩ : ByteArray) ++ (strOfNums y513)), .int .i64 (x4_1.size : Int)] 33 (0, 0)) (by (with_reducible repeat (first | refine blk_drewN ?_ _ | refine blk_drew ?_ | refine blk_alloc ?_ _)); refine blk_put (cs := #[.int .i64 1, .string (⟨#[]⟩ : ByteArray), .int .i64 (x4_1.size : Int)]) ?_ 1 _ rfl; (with_reducible repeat (first | refine blk_drewN ?_ _ | refine blk_drew ?_ | refine blk_alloc ?_ _)); exact BK498.out) k_ hk)); (case aO => exact (by (with_reducible repeat (first | apply Kd.R_alloc | apply Kd.R_drewN | apply Kd.R_drew)); exact Kd.R_mono (Kd.R_far (p := ⟨gb498, 1, none⟩) (Kd.R_mono HO_5.out (fun k_ hk => (⟨hk, hk⟩ : _ ∧ k_ ≠ gb498))) (fun _ hk => hk.2) (.string ((⟨#[110]⟩ : ByteArray) ++ (strOfNums y513)))) (fun _ hk => hk.1))); (case aS => exact (below_size (by repeat (first | (with_reducible first | exact HB.out | apply below_alloc | apply pw_below_drewN | apply below_drew1 | refine below_set ?_ GE498.out) | exact HB.out)))); (case aL => have := LMc40.out; omega); intro v517 w52 ho hb hg hat; rw [← Ny516.out] at ho; have n0_ := Aside0.mk (Kd.R_over' (by (with_reducible repeat (first | apply Kd.R_alloc | apply Kd.R_drewN | apply Kd.R_drew)); exact (Kd.R_mono (Kd.R_far (p := ⟨gb498, 1, none⟩) (Kd.R_types HO_6.out BK498.out (by decide)) (fun _ hk => hk.2) (.string ((⟨#[110]⟩ : ByteArray) ++ (strOfNums y513)))) (fun _ h_ => h_.1))) (Kd.R_typed (by (with_reducible repeat (first | apply Kd.R_alloc | apply Kd.R_drewN | apply Kd.R_drew)); exact (Kd.R_mono (Kd.R_far (p := ⟨gb498, 1, none⟩) (Kd.R_mono HO_5.out (fun k_ hk => (⟨hk, hk⟩ : _ ∧ k_ ≠ gb498))) (fun _ hk => hk.2) (.string ((⟨#[110]⟩ : ByteArray) ++ (strOfNums y513)))) (fun _ h_ => h_.1)))) (by decide) hg); have n1_ := Aside0.mk (blk_grown (g := gb498) (o := .cells #[.int .i64 1, .string ((⟨#[110]⟩ : ByteArray) ++ (strOfNums y513)), .int .i64 (x4_1.size : Int)] 33 (0, 0)) (by (with_reducible repeat (first | refine blk_drewN ?_ _ | refine blk_drew ?_ | refine blk_alloc ?_ _)); refine blk_put (cs := #[.int .i64 1, .string (⟨#[]⟩ : ByteArray), .int .i64 (x4_1.size : Int)]) ?_ 1 _ rfl; (with_reducible repeat (first | refine blk_drewN ?_ _ | refine blk_drew ?_ | refine blk_alloc ?_ _)); exact BK498.out) hg (Kd.R_away HO_5.out (fun _ hk => hk))); have n2_ := Aside0.mk (Kd.R_over' (by (with_reducible repeat (first | apply Kd.R_alloc | apply Kd.R_drewN | apply Kd.R_drew)); exact (Kd.R_mono (Kd.R_far (p := ⟨gb498, 1, none⟩) (Kd.R_types HO515.out BK498.out (by decide)) (fun _ hk => hk.2) (.string ((⟨#[110]⟩ : ByteArray) ++ (strOfNums y513)))) (fun _ h_ => h_.1))) (Kd.R_typed (by (with_reducible repeat (first | apply Kd.R_alloc | apply Kd.R_drewN | apply Kd.R_drew)); exact (Kd.R_mono (Kd.R_far (p := ⟨gb498, 1, none⟩) (Kd.R_mono HO_5.out (fun k_ hk => (⟨hk, hk⟩ : _ ∧ k_ ≠ gb498))) (fun _ hk => hk.2) (.string ((⟨#[110]⟩ : ByteArray) ++ (strOfNums y513)))) (fun _ h_ => h_.1)))) (by decide) hg); have n3_ := Aside0.mk (hb); have n4_ := Aside0.mk (ho); clear HO_6; clear BK498; clear HO515; clear HB; clear HO_5; have HO_6 := n0_; have BK498 := n1_; have HO515 := n2_; have HB := n3_; have HO518 := n4_; clear n0_ n1_ n2_ n3_ n4_; clear ho hb hg hat))
                                  go_roundg kj8
                                  case measure => have := HK1.out; have := HJ8.out; omega
                                  case rel => exact ⟨((x4_1 ++ ((⟨#[110]⟩ : ByteArray) ++ (strOfNums y513))) ++ (⟨#[32]⟩ : ByteArray)), (y516), (wrap64 (x7_1 + 1)), (by first | rfl | (simp; done) | (simp [*]; done)), (by first | rfl | (simp; done) | (simp [*]; done)), H', ⟨by have := HK1.out; have := HJ8.out; omega⟩, ⟨by (with_reducible repeat (first | apply Kd.R_alloc | apply Kd.R_drewN | apply Kd.R_drew)); exact Kd.R_mono HO518.out (fun _ hk => trivial)⟩, ⟨by (with_reducible repeat (first | apply Kd.R_alloc | apply Kd.R_drewN | apply Kd.R_drew)); exact HO_6.out⟩, ⟨by repeat (first | (with_reducible first | exact HB.out | apply below_alloc | apply pw_below_drewN | apply below_drew1 | refine below_set ?_ GE498.out) | exact HB.out)⟩⟩
                                · rw [if_neg c42] at H
                                  exact absurd H (by simp)
                              · rw [if_neg c41] at H
                                exact absurd H (by simp)
                            · rw [if_neg c40] at H
                              exact absurd H (by simp)
                          · rw [if_neg c39] at H
                            exact absurd H (by simp)
                        · rw [if_neg c38] at H
                          have c38b0 : ((Int.tmod (wrap64 (rd l0 x7_1)) 4) == 2) = false := beq_eq_false_iff_ne.mpr c38
                          have c38b1 : ((Int.tmod (wrap64 (rd l0 x7_1)) 4) != 2) = true := bne_iff_ne.mpr c38
                          by_cases c53 : (Int.tmod (wrap64 (rd l0 x7_1)) 4) = 3
                          · rw [if_pos c53] at H
                            have c53b0 : ((Int.tmod (wrap64 (rd l0 x7_1)) 4) == 3) = true := beq_iff_eq.mpr c53
                            have c53b1 : ((Int.tmod (wrap64 (rd l0 x7_1)) 4) != 3) = false := bne_eq_false_iff_eq.mpr c53
                            clear c53
                            obtain ⟨y521, hy521⟩ : ∃ y_ : List Int, y_ = (([(48 + (Int.tmod (rd l0 x7_1) 10)) % 256, (97 + (Int.tmod (rd l0 x7_1) 26)) % 256, 90] : List Int)) := ⟨_, rfl⟩
                            replace H : (if x5_1.length < 4398046511104 then (if x4_1.size + (strOfNums y521).size ≤ 9223372036854775807 then (if (x4_1 ++ (strOfNums y521)).size + 1 ≤ 9223372036854775807 then (archivistlaw07_LexApart.l0 kj8 l0 true ((x4_1 ++ (strOfNums y521)) ++ (⟨#[32]⟩ : ByteArray)) (x5_1 ++ [(⟨3, strOfNums y521, (x4_1.size : Int)⟩ : S33)]) t494 (wrap64 (x7_1 + 1))) else (none)) else (none)) else (none)) = some r := by first | (rw [hy521]; with_reducible exact H) | (have H2_ := (Option.bind_some _ _).symm.trans H; rw [hy521]; with_reducible exact H2_) | (have H2_ := (Option.bind_some _ _).symm.trans H; with_reducible exact H2_) | with_reducible exact H | (rw [hy521]; exact H) | exact H
                            have Ny521 := Aside0.mk hy521
                            clear hy521
                            by_cases c54 : x5_1.length < 4398046511104
                            · rw [if_pos c54] at H
                              have LMc54 := Aside0.mk c54
                              clear c54
                              obtain ⟨y524, hy524⟩ : ∃ y_ : List (S33), y_ = (x5_1 ++ [(⟨3, strOfNums y521, (x4_1.size : Int)⟩ : S33)]) := ⟨_, rfl⟩
                              replace H : (if x4_1.size + (strOfNums y521).size ≤ 9223372036854775807 then (if (x4_1 ++ (strOfNums y521)).size + 1 ≤ 9223372036854775807 then (archivistlaw07_LexApart.l0 kj8 l0 true ((x4_1 ++ (strOfNums y521)) ++ (⟨#[32]⟩ : ByteArray)) y524 t494 (wrap64 (x7_1 + 1))) else (none)) else (none)) = some r := by first | (rw [hy524]; with_reducible exact H) | (have H2_ := (Option.bind_some _ _).symm.trans H; rw [hy524]; with_reducible exact H2_) | (have H2_ := (Option.bind_some _ _).symm.trans H; with_reducible exact H2_) | with_reducible exact H | (rw [hy524]; exact H) | exact H
                              have Ny524 := Aside0.mk hy524
                              clear hy524
                              by_cases c55 : x4_1.size + (strOfNums y521).size ≤ 9223372036854775807
                              · rw [if_pos c55] at H
                                have c55b0 := eq_true c55
                                have c55b1 : decide (x4_1.size + (strOfNums y521).size ≤ 9223372036854775807) = true := decide_eq_true c55
                                try have c55b2 : (9223372036854775807 < x4_1.size + (strOfNums y521).size) = False := eq_false (Nat.not_lt.2 c55)
                                by_cases c56 : (x4_1 ++ (strOfNums y521)).size + 1 ≤ 9223372036854775807
                                · rw [if_pos c56] at H
                                  have c56b0 := eq_true c56
                                  have c56b1 : decide ((x4_1 ++ (strOfNums y521)).size + 1 ≤ 9223372036854775807) = true := decide_eq_true c56
                                  try have c56b2 : (9223372036854775807 < (x4_1 ++ (strOfNums y521)).size + 1) = False := eq_false (Nat.not_lt.2 c56)
                                  try (have c56b3 : (9223372036854775807 < (x4_1 ++ (strOfNums y521)).size + 1) = False := eq_false (Nat.not_lt.2 c56); simp only [ByteArray.size_append, Nat.add_zero, Nat.zero_add] at c56b3)
                                  have H' := Aside0.mk H
                                  clear H
                                  have p497 : 0 ≤ (x7_1 : Int) := of_decide_eq_true (by first | (with_reducible assumption) | assumption)
                                  have q497 : x7_1 < (l0.length : Int) := of_decide_eq_true (by first | (with_reducible assumption) | assumption)
                                  obtain ⟨ad497, e497, hx497_0⟩ := Kd.at_int HR0.out x7_1 p497 q497
                                  cases e497
                                  replace hx497_0 := (HB.out.cell (World.block_lt_of_cell? w _ hx497_0)).trans hx497_0
                                  replace p497 := eq_true p497
                                  replace q497 := eq_true q497
                                  try go_wp2_with (first | ((with_reducible refine gate_dst (N := 9) rfl ?_); (try (refine gate_guard (by rfl) ?_; dsimp only)); refine box_event ?hg (N := 9) ?hd (cs := #[.int .i64 0, .string (⟨#[]⟩ : ByteArray), .int .i64 0]) (t := 33) ?hr ?_; (case hd => rfl); (case hg => rfl); (case hr => first | (go_simp; done) | (go_simp; rfl)); intro gb498 hg w57 hbox hb; have n0_ := Aside0.mk (Kd.R_below (Kd.R_elderB (by (with_reducible repeat (first | apply Kd.R_alloc | apply Kd.R_drewN | apply Kd.R_drew)); exact HO_5.out) gb498 (Nat.le_of_eq hg.symm)) hb); have n1_ := Aside0.mk (Kd.R_below (by (with_reducible repeat (first | apply Kd.R_alloc | apply Kd.R_drewN | apply Kd.R_drew)); exact HO_6.out) hb); have n2_ := Aside0.mk (below_step (by repeat (first | (with_reducible first | exact HB.out | apply below_alloc | apply pw_below_drewN | apply below_drew1) | exact HB.out)) hb); have n3_ := Aside0.mk (hbox); have n4_ := Aside0.mk ((by rw [hg]; exact (below_size (by repeat (first | (with_reducible first | exact HB.out | apply below_alloc | apply pw_below_drewN | apply below_drew1) | exact HB.out))) : w.heap.size ≤ gb498)); have n5_ := Aside0.mk ((by rw [hg]; exact (below_size (by repeat (first | (with_reducible first | exact HB.out | apply below_alloc | apply pw_below_drewN | apply below_drew1) | exact HB.out))) : w.heap.size ≤ gb498)); clear HO_5; clear HO_6; clear HB; have HO_5 := n0_; have HO_6 := n1_; have HB := n2_; have BK498 := n3_; have GW498 := n4_; have GE498 := n5_; clear n0_ n1_ n2_ n3_ n4_ n5_; clear hb hbox hg; have hcz58_0 : w57.cell? ⟨gb498, 0, none⟩ = some (.int .i64 0) := (blk_cell BK498.out 0).trans rfl; have hcz58_1 : w57.cell? ⟨gb498, 1, none⟩ = some (.string (⟨#[]⟩ : ByteArray)) := (blk_cell BK498.out 1).trans rfl; have hcz58_2 : w57.cell? ⟨gb498, 2, none⟩ = some (.int .i64 0) := (blk_cell BK498.out 2).trans rfl; have hfz58_0 := blk_frozen BK498.out 0; have hfz58_1 := blk_frozen BK498.out 1; have hfz58_2 := blk_frozen BK498.out 2))
                                  have n0_ : Aside0 (Kd.R k33 33 ((((w57.setCell ⟨gb498, 0, none⟩ (.int .i64 4)).setCell ⟨gb498, 1, none⟩ (.string (⟨#[]⟩ : ByteArray))).setCell ⟨gb498, 2, none⟩ (.int .i64 (x4_1.size : Int))).setCell ⟨gb498, 0, none⟩ (.int .i64 3)) w.heap.size (fun k_ => k_ ≠ gb498) u5 x5_1) := ⟨by (with_reducible repeat (first | apply Kd.R_alloc | apply Kd.R_drewN | apply Kd.R_drew)); exact Kd.R_mono (Kd.R_far (p := ⟨gb498, 0, none⟩) (Kd.R_far (p := ⟨gb498, 2, none⟩) (Kd.R_far (p := ⟨gb498, 1, none⟩) (Kd.R_far (p := ⟨gb498, 0, none⟩) (Kd.R_mono HO_5.out (fun k_ hk => (⟨hk, hk.2⟩ : _ ∧ k_ ≠ gb498))) (fun _ hk => hk.2) (.int .i64 4)) (fun _ hk => hk.2) (.string (⟨#[]⟩ : ByteArray))) (fun _ hk => hk.2) (.int .i64 (x4_1.size : Int))) (fun _ hk => hk.2) (.int .i64 3)) (fun _ hk => hk.1.2)⟩
                                  have n1_ : Aside0 (Kd.R Kd.string 9 ((((w57.setCell ⟨gb498, 0, none⟩ (.int .i64 4)).setCell ⟨gb498, 1, none⟩ (.string (⟨#[]⟩ : ByteArray))).setCell ⟨gb498, 2, none⟩ (.int .i64 (x4_1.size : Int))).setCell ⟨gb498, 0, none⟩ (.int .i64 3)) w.heap.size (fun _ => True) (.slice Ao8 t494.length co8) t494) := ⟨by (with_reducible repeat (first | apply Kd.R_alloc | apply Kd.R_drewN | apply Kd.R_drew)); exact Kd.R_mono (Kd.R_far (p := ⟨gb498, 0, none⟩) (Kd.R_far (p := ⟨gb498, 2, none⟩) (Kd.R_far (p := ⟨gb498, 1, none⟩) (Kd.R_far (p := ⟨gb498, 0, none⟩) (Kd.R_types HO_6.out BK498.out (by decide)) (fun _ hk => hk.2) (.int .i64 4)) (fun _ hk => hk.2) (.string (⟨#[]⟩ : ByteArray))) (fun _ hk => hk.2) (.int .i64 (x4_1.size : Int))) (fun _ hk => hk.2) (.int .i64 3)) (fun _ hk => trivial)⟩
                                  have n2_ : Aside0 (((((w57.setCell ⟨gb498, 0, none⟩ (.int .i64 4)).setCell ⟨gb498, 1, none⟩ (.string (⟨#[]⟩ : ByteArray))).setCell ⟨gb498, 2, none⟩ (.int .i64 (x4_1.size : Int))).setCell ⟨gb498, 0, none⟩ (.int .i64 3)).heap[gb498]? = some (.cells #[.int .i64 3, .string (⟨#[]⟩ : ByteArray), .int .i64 (x4_1.size : Int)] 33 (0, 0))) := ⟨by (with_reducible repeat (first | refine blk_drewN ?_ _ | refine blk_drew ?_ | refine blk_alloc ?_ _)); refine blk_put (cs := #[.int .i64 4, .string (⟨#[]⟩ : ByteArray), .int .i64 (x4_1.size : Int)]) ?_ 0 _ rfl; (with_reducible repeat (first | refine blk_drewN ?_ _ | refine blk_drew ?_ | refine blk_alloc ?_ _)); refine blk_put (cs := #[.int .i64 4, .string (⟨#[]⟩ : ByteArray), .int .i64 0]) ?_ 2 _ rfl; (with_reducible repeat (first | refine blk_drewN ?_ _ | refine blk_drew ?_ | refine blk_alloc ?_ _)); refine blk_put (cs := #[.int .i64 4, .string (⟨#[]⟩ : ByteArray), .int .i64 0]) ?_ 1 _ rfl; (with_reducible repeat (first | refine blk_drewN ?_ _ | refine blk_drew ?_ | refine blk_alloc ?_ _)); refine blk_put (cs := #[.int .i64 0, .string (⟨#[]⟩ : ByteArray), .int .i64 0]) ?_ 0 _ rfl; (with_reducible repeat (first | refine blk_drewN ?_ _ | refine blk_drew ?_ | refine blk_alloc ?_ _)); exact BK498.out⟩
                                  have n3_ : Aside0 (Below w.heap.size w ((((w57.setCell ⟨gb498, 0, none⟩ (.int .i64 4)).setCell ⟨gb498, 1, none⟩ (.string (⟨#[]⟩ : ByteArray))).setCell ⟨gb498, 2, none⟩ (.int .i64 (x4_1.size : Int))).setCell ⟨gb498, 0, none⟩ (.int .i64 3))) := ⟨by repeat (first | (with_reducible first | exact HB.out | apply below_alloc | apply pw_below_drewN | apply below_drew1 | refine below_set ?_ GE498.out) | exact HB.out)⟩
                                  (try clear HO_5)
                                  (try clear HO_6)
                                  (try clear BK498)
                                  (try clear HB)
                                  generalize ((((w57.setCell ⟨gb498, 0, none⟩ (.int .i64 4)).setCell ⟨gb498, 1, none⟩ (.string (⟨#[]⟩ : ByteArray))).setCell ⟨gb498, 2, none⟩ (.int .i64 (x4_1.size : Int))).setCell ⟨gb498, 0, none⟩ (.int .i64 3)) = w59 at n0_ n1_ n2_ n3_ ⊢
                                  have HO_5 := n0_
                                  have HO_6 := n1_
                                  have BK498 := n2_
                                  have HB := n3_
                                  clear n0_ n1_ n2_ n3_
                                  have n0_ := Aside0.mk (Kd.R_drew HO_5.out)
                                  have n1_ := Aside0.mk (Kd.R_drew HO_6.out)
                                  have n2_ := Aside0.mk (blk_drew BK498.out)
                                  have n3_ := Aside0.mk (below_drew1 HB.out)
                                  clear HO_5
                                  clear HO_6
                                  clear BK498
                                  clear HB
                                  have HO_5 := n0_
                                  have HO_6 := n1_
                                  have BK498 := n2_
                                  have HB := n3_
                                  clear n0_ n1_ n2_ n3_
                                  have p519 : 0 ≤ (x7_1 : Int) := of_decide_eq_true (by first | (with_reducible assumption) | assumption)
                                  have q519 : x7_1 < (l0.length : Int) := of_decide_eq_true (by first | (with_reducible assumption) | assumption)
                                  obtain ⟨ad519, e519, hx519_0⟩ := Kd.at_int HR0.out x7_1 p519 q519
                                  have hw519_0 := hx519_0
                                  obtain rfl : ad497 = ad519 := (by injection e519)
                                  replace hx519_0 := (HB.out.cell (World.block_lt_of_cell? w _ hx519_0)).trans hx519_0
                                  replace p519 := eq_true p519
                                  replace q519 := eq_true q519
                                  have p520 : 0 ≤ (x7_1 : Int) := of_decide_eq_true (by first | (with_reducible assumption) | assumption)
                                  have q520 : x7_1 < (l0.length : Int) := of_decide_eq_true (by first | (with_reducible assumption) | assumption)
                                  obtain ⟨ad520, e520, hx520_0⟩ := Kd.at_int HR0.out x7_1 p520 q520
                                  have hw520_0 := hx520_0
                                  obtain rfl : ad497 = ad520 := (by injection e520)
                                  replace hx520_0 := (HB.out.cell (World.block_lt_of_cell? w _ hx520_0)).trans hx520_0
                                  replace p520 := eq_true p520
                                  replace q520 := eq_true q520
                                  refine start_ (n := 16) (S := fun w' => w'.cell? (ad497.add (x7_1).toNat) = some (.int .u8 (rd l0 x7_1)) ∧ w'.cell? (ad497.add (x7_1).toNat) = some (.int .u8 (rd l0 x7_1))) (ds := []) #[false, false, false, false, false, false, false, false, false, false, false, false, false, false, false, false] (by kernel_rfl) rfl rfl ⟨((HB.out.cell (World.block_lt_of_cell? w _ hw519_0)).trans hw519_0), ((HB.out.cell (World.block_lt_of_cell? w _ hw520_0)).trans hw520_0)⟩ (fun hHeld => ?_); refine with_tabW archivistlaw07_LexApart.tab29 archivistlaw07_LexApart.bits29 (fun HT_ HW_ => ?_)
                                  generalize w59.drew = w60 at HO_5 HO_6 BK498 HB hx519_0 hx520_0 hHeld ⊢
                                  refine pure_ (i := 0) (N := some 90) (v := ?_) (a' := ?_) #[true, false, false, false, false, false, false, false, false, false, false, false, false, false, false, false] rfl rfl (any_of HT_.out (by kernel_rfl)) (fun _ _ _ h => h) (Or.inl ⟨by rfl, ?_⟩) ?_ ?_
                                  rotate_left
                                  · intro w'
                                    go_simp
                                    with_reducible rfl
                                  rotate_left
                                  · simp only [Act.put, List.setIfInBounds_toArray, List.set_cons_zero, List.set_cons_succ, i64_w, i32_w]
                                    rfl
                                  refine pure_ (i := 1) (N := some 91) (v := ?_) (a' := ?_) #[true, true, false, false, false, false, false, false, false, false, false, false, false, false, false, false] rfl rfl (any_of HT_.out (by kernel_rfl)) (fun _ _ _ h => h) (Or.inl ⟨by rfl, ?_⟩) ?_ ?_
                                  rotate_left
                                  · intro w'
                                    go_simp
                                    with_reducible rfl
                                  rotate_left
                                  · simp only [Act.put, List.setIfInBounds_toArray, List.set_cons_zero, List.set_cons_succ, i64_w, i32_w]
                                    rfl
                                  refine pure_ (i := 2) (N := some 92) (v := ?_) (a' := ?_) #[true, true, true, false, false, false, false, false, false, false, false, false, false, false, false, false] rfl rfl (any_of HT_.out (by kernel_rfl)) (fun _ _ _ h => h) (Or.inl ⟨by rfl, ?_⟩) ?_ ?_
                                  rotate_left
                                  · intro w'
                                    go_simp
                                    with_reducible rfl
                                  rotate_left
                                  · simp only [Act.put, List.setIfInBounds_toArray, List.set_cons_zero, List.set_cons_succ, i64_w, i32_w]
                                    rfl
                                  refine pure_ (i := 6) (N := some 96) (v := ?_) (a' := ?_) #[true, true, true, false, false, false, true, false, false, false, false, false, false, false, false, false] rfl rfl (any_of HT_.out (by kernel_rfl)) (fun _ _ _ h => h) (Or.inl ⟨by rfl, ?_⟩) ?_ ?_
                                  rotate_left
                                  · intro w'
                                    go_simp
                                    with_reducible rfl
                                  rotate_left
                                  · simp only [Act.put, List.setIfInBounds_toArray, List.set_cons_zero, List.set_cons_succ, i64_w, i32_w]
                                    rfl
                                  refine pure_ (i := 7) (N := some 97) (v := ?_) (a' := ?_) #[true, true, true, false, false, false, true, true, false, false, false, false, false, false, false, false] rfl rfl (any_of HT_.out (by kernel_rfl)) (fun _ _ _ h => h) (Or.inl ⟨by rfl, ?_⟩) ?_ ?_
                                  rotate_left
                                  · intro w'
                                    go_simp
                                    with_reducible rfl
                                  rotate_left
                                  · simp only [Act.put, List.setIfInBounds_toArray, List.set_cons_zero, List.set_cons_succ, i64_w, i32_w]
                                    rfl
                                  refine pure_ (i := 8) (N := some 98) (v := ?_) (a' := ?_) #[true, true, true, false, false, false, true, true, true, false, false, false, false, false, false, false] rfl rfl (any_of HT_.out (by kernel_rfl)) (fun _ _ _ h => h) (Or.inl ⟨by rfl, ?_⟩) ?_ ?_
                                  rotate_left
                                  · intro w'
                                    go_simp
                                    with_reducible rfl
                                  rotate_left
                                  · simp only [Act.put, List.setIfInBounds_toArray, List.set_cons_zero, List.set_cons_succ, i64_w, i32_w]
                                    rfl
                                  refine take_ (i := 3) (N := some 93) (v := ?_) (a' := ?_) #[true, true, true, true, false, false, true, true, true, false, false, false, false, false, false, false] rfl rfl (take_ofW HT_.out HW_.out (by kernel_rfl)) (fun _ _ _ h => h) (Or.inl ⟨by rfl, ?_⟩) hHeld ?_ ?_
                                  rotate_left
                                  · rintro w' ⟨s0, s1⟩
                                    go_simp
                                    with_reducible rfl
                                  rotate_left
                                  · simp only [Act.put, List.setIfInBounds_toArray, List.set_cons_zero, List.set_cons_succ, i64_w, i32_w]
                                    rfl
                                  refine pure_ (i := 4) (N := some 94) (v := ?_) (a' := ?_) #[true, true, true, true, true, false, true, true, true, false, false, false, false, false, false, false] rfl rfl (any_of HT_.out (by kernel_rfl)) (fun _ _ _ h => h) (Or.inl ⟨by rfl, ?_⟩) ?_ ?_
                                  rotate_left
                                  · intro w'
                                    go_simp
                                    with_reducible rfl
                                  rotate_left
                                  · simp only [Act.put, List.setIfInBounds_toArray, List.set_cons_zero, List.set_cons_succ, i64_w, i32_w]
                                    rfl
                                  refine pure_ (i := 5) (N := some 95) (v := ?_) (a' := ?_) #[true, true, true, true, true, true, true, true, true, false, false, false, false, false, false, false] rfl rfl (any_of HT_.out (by kernel_rfl)) (fun _ _ _ h => h) (Or.inl ⟨by rfl, ?_⟩) ?_ ?_
                                  rotate_left
                                  · intro w'
                                    go_simp
                                    with_reducible rfl
                                  rotate_left
                                  · simp only [Act.put, List.setIfInBounds_toArray, List.set_cons_zero, List.set_cons_succ, i64_w, i32_w]
                                    rfl
                                  refine take_ (i := 9) (N := some 99) (v := ?_) (a' := ?_) #[true, true, true, true, true, true, true, true, true, true, false, false, false, false, false, false] rfl rfl (take_ofW HT_.out HW_.out (by kernel_rfl)) (fun _ _ _ h => h) (Or.inl ⟨by rfl, ?_⟩) hHeld ?_ ?_
                                  rotate_left
                                  · rintro w' ⟨s0, s1⟩
                                    go_simp
                                    with_reducible rfl
                                  rotate_left
                                  · simp only [Act.put, List.setIfInBounds_toArray, List.set_cons_zero, List.set_cons_succ, i64_w, i32_w]
                                    rfl
                                  refine pure_ (i := 10) (N := some 100) (v := ?_) (a' := ?_) #[true, true, true, true, true, true, true, true, true, true, true, false, false, false, false, false] rfl rfl (any_of HT_.out (by kernel_rfl)) (fun _ _ _ h => h) (Or.inl ⟨by rfl, ?_⟩) ?_ ?_
                                  rotate_left
                                  · intro w'
                                    go_simp
                                    with_reducible rfl
                                  rotate_left
                                  · simp only [Act.put, List.setIfInBounds_toArray, List.set_cons_zero, List.set_cons_succ, i64_w, i32_w]
                                    rfl
                                  refine pure_ (i := 11) (N := some 101) (v := ?_) (a' := ?_) #[true, true, true, true, true, true, true, true, true, true, true, true, false, false, false, false] rfl rfl (any_of HT_.out (by kernel_rfl)) (fun _ _ _ h => h) (Or.inl ⟨by rfl, ?_⟩) ?_ ?_
                                  rotate_left
                                  · intro w'
                                    go_simp
                                    with_reducible rfl
                                  rotate_left
                                  · simp only [Act.put, List.setIfInBounds_toArray, List.set_cons_zero, List.set_cons_succ, i64_w, i32_w]
                                    rfl
                                  refine one_ (i := 12) (N := some 102) #[true, true, true, true, true, true, true, true, true, true, true, true, true, false, false, false] rfl rfl (one_of HT_.out (by kernel_rfl)) (by decide) (fun K hK => ?_)
                                  refine Kd.R_lit_step (Kd.int .u8) _ 5 ?hg (N := 102) ?hd (xs := ([(48 + (Int.tmod (rd l0 x7_1) 10)) % 256, (97 + (Int.tmod (rd l0 x7_1) 26)) % 256, 90] : List Int)) (inner := [.int .u8 ((48 + (Int.tmod (rd l0 x7_1) 10)) % 256), .int .u8 ((97 + (Int.tmod (rd l0 x7_1) 26)) % 256), .int .u8 90]) (ok := fun _ => True) (okp := fun _ => True) ?hr ?hp (fun _ hk => hk) trivial (Below.refl _ _) (Nat.le_refl _) (by simp) ?_; (case hd => rfl); (case hg => rfl); (case hr => first | (go_simp; done) | (go_simp; rfl)); (case hp => exact (Reps.one (show Kd.M (Kd.int .u8) _ _ _ ((48 + (Int.tmod (rd l0 x7_1) 10)) % 256) [.int .u8 ((48 + (Int.tmod (rd l0 x7_1) 10)) % 256)] from rfl) (Reps.one (show Kd.M (Kd.int .u8) _ _ _ ((97 + (Int.tmod (rd l0 x7_1) 26)) % 256) [.int .u8 ((97 + (Int.tmod (rd l0 x7_1) 26)) % 256)] from rfl) (Reps.one (show Kd.M (Kd.int .u8) _ _ _ 90 [.int .u8 90] from rfl) (Reps.none _ _)))))
                                  intro v522 w61 ho62 hb hg_ hnew_
                                  clear hg_ hnew_
                                  (first | rw [← Ny521.out] at ho62 | (simp only [Int.reduceToNat] at ho62; rw [← Ny521.out] at ho62))
                                  have n0_ := Aside0.mk (Kd.R_below (by (with_reducible repeat (first | apply Kd.R_alloc | apply Kd.R_drewN | apply Kd.R_drew)); exact HO_5.out) hb)
                                  have n1_ := Aside0.mk (Kd.R_below (by (with_reducible repeat (first | apply Kd.R_alloc | apply Kd.R_drewN | apply Kd.R_drew)); exact HO_6.out) hb)
                                  have n2_ := Aside0.mk (Kd.R_lower ho62 (below_size (by repeat (first | (with_reducible first | exact HB.out | apply below_alloc | apply pw_below_drewN | apply below_drew1 | refine below_set ?_ GE498.out) | exact HB.out))))
                                  have n3_ := Aside0.mk (blk_below (g := gb498) (o := .cells #[.int .i64 3, .string (⟨#[]⟩ : ByteArray), .int .i64 (x4_1.size : Int)] 33 (0, 0)) (by (with_reducible repeat (first | refine blk_drewN ?_ _ | refine blk_drew ?_ | refine blk_alloc ?_ _)); exact BK498.out) hb)
                                  have n4_ := Aside0.mk (below_step (by repeat (first | (with_reducible first | exact HB.out | apply below_alloc | apply pw_below_drewN | apply below_drew1 | refine below_set ?_ GE498.out) | exact HB.out)) hb)
                                  clear HO_5
                                  clear HO_6
                                  clear BK498
                                  clear HB
                                  have HO_5 := n0_
                                  have HO_6 := n1_
                                  have HO523 := n2_
                                  have BK498 := n3_
                                  have HB := n4_
                                  clear n0_ n1_ n2_ n3_ n4_
                                  clear hb ho62
                                  refine hK.out _ _ ⟨((HB.out.cell (World.block_lt_of_cell? w _ hw519_0)).trans hw519_0), ((HB.out.cell (World.block_lt_of_cell? w _ hw520_0)).trans hw520_0)⟩ (fun hHeld => ?_)
                                  clear hK K
                                  refine norm_ (a' := ?_) ?_ ?_
                                  rotate_left
                                  · show Act.put _ (some 102) _ = _
                                    simp only [Act.put, List.setIfInBounds_toArray, List.set_cons_zero, List.set_cons_succ, i64_w, i32_w]
                                    rfl
                                  refine one_ (i := 13) (N := some 103) #[true, true, true, true, true, true, true, true, true, true, true, true, true, true, false, false] rfl rfl (one_of HT_.out (by kernel_rfl)) (by decide) (fun K hK => ?_)
                                  have hcv63 := own_string (P := Try.prog) Try.underlying22 Try.underlying5 Try.underlying9 (Kd.own_of_R HO523.out)
                                  refine value_ (w1 := ?_) (v := ?_) (by rfl) rfl ?_ ?_
                                  rotate_left 2
                                  · go_simp
                                    constructor
                                    · rfl
                                    · rfl
                                  clear hcv63
                                  refine hK.out _ _ ⟨((HB.out.cell (World.block_lt_of_cell? w _ hw519_0)).trans hw519_0), ((HB.out.cell (World.block_lt_of_cell? w _ hw520_0)).trans hw520_0)⟩ (fun hHeld => ?_)
                                  clear hK K
                                  refine norm_ (a' := ?_) ?_ ?_
                                  rotate_left
                                  · show Act.put _ (some 103) _ = _
                                    simp only [Act.put, List.setIfInBounds_toArray, List.set_cons_zero, List.set_cons_succ, i64_w, i32_w]
                                    rfl
                                  refine pure_ (i := 14) (N := some 104) (v := ?_) (a' := ?_) #[true, true, true, true, true, true, true, true, true, true, true, true, true, true, true, false] rfl rfl (any_of HT_.out (by kernel_rfl)) (fun _ _ _ h => h) (Or.inl ⟨by rfl, ?_⟩) ?_ ?_
                                  rotate_left
                                  · intro w'
                                    go_simp
                                    with_reducible rfl
                                  rotate_left
                                  · simp only [Act.put, List.setIfInBounds_toArray, List.set_cons_zero, List.set_cons_succ, i64_w, i32_w]
                                    rfl
                                  refine one_ (i := 15) (N := none) #[true, true, true, true, true, true, true, true, true, true, true, true, true, true, true, true] rfl rfl (one_of HT_.out (by kernel_rfl)) (by decide) (fun K hK => ?_)
                                  have hs64 : w61.cell? ⟨gb498, 1, none⟩ = some (.string (⟨#[]⟩ : ByteArray)) := (blk_cell BK498.out 1).trans rfl
                                  have hfs64 := blk_frozen BK498.out 1
                                  refine skip_ (w1 := ?_) (by rfl) rfl ?_ ?_
                                  rotate_left
                                  · go_simp
                                    rfl
                                  refine hK.out _ _ ⟨((cell_far (p := ⟨gb498, _, none⟩) (by first | exact Nat.ne_of_lt (Nat.lt_of_lt_of_le (by have := World.block_lt_of_cell? _ _ hw519_0; first | rwa [add_block] at this | exact this) GW498.out) | (rw [add_block]; exact Nat.ne_of_lt (Nat.lt_of_lt_of_le (by have := World.block_lt_of_cell? _ _ hw519_0; first | rwa [add_block] at this | exact this) GW498.out)) | (show (Addr.add _ _).block ≠ _; rw [add_block]; exact Nat.ne_of_lt (Nat.lt_of_lt_of_le (by have := World.block_lt_of_cell? _ _ hw519_0; first | rwa [add_block] at this | exact this) GW498.out)) | (dsimp only; exact Nat.ne_of_lt (Nat.lt_of_lt_of_le (by have := World.block_lt_of_cell? _ _ hw519_0; first | rwa [add_block] at this | exact this) GW498.out))) _).trans (hHeld.1)), ((cell_far (p := ⟨gb498, _, none⟩) (by first | exact Nat.ne_of_lt (Nat.lt_of_lt_of_le (by have := World.block_lt_of_cell? _ _ hw520_0; first | rwa [add_block] at this | exact this) GW498.out) | (rw [add_block]; exact Nat.ne_of_lt (Nat.lt_of_lt_of_le (by have := World.block_lt_of_cell? _ _ hw520_0; first | rwa [add_block] at this | exact this) GW498.out)) | (show (Addr.add _ _).block ≠ _; rw [add_block]; exact Nat.ne_of_lt (Nat.lt_of_lt_of_le (by have := World.block_lt_of_cell? _ _ hw520_0; first | rwa [add_block] at this | exact this) GW498.out)) | (dsimp only; exact Nat.ne_of_lt (Nat.lt_of_lt_of_le (by have := World.block_lt_of_cell? _ _ hw520_0; first | rwa [add_block] at this | exact this) GW498.out))) _).trans (hHeld.2))⟩ (fun hHeld => ?_)
                                  clear hK K
                                  refine done_ (done_of HT_.out (by kernel_rfl)) ?_
                                  have hcz65_0 : w61.cell? ⟨gb498, 0, none⟩ = some (.int .i64 3) := (blk_cell BK498.out 0).trans rfl
                                  have hcz65_1 : w61.cell? ⟨gb498, 1, none⟩ = some (.string (⟨#[]⟩ : ByteArray)) := (blk_cell BK498.out 1).trans rfl
                                  have hcz65_2 : w61.cell? ⟨gb498, 2, none⟩ = some (.int .i64 (x4_1.size : Int)) := (blk_cell BK498.out 2).trans rfl
                                  have hfz65_0 := blk_frozen BK498.out 0
                                  have hfz65_1 := blk_frozen BK498.out 1
                                  have hfz65_2 := blk_frozen BK498.out 2
                                  try go_wp2_with (first | ((with_reducible refine gate_builtin (b := .append) (xs := #[.tmp 107, .tmp 109]) rfl ?_); (try (refine gate_guard (by rfl) ?_; dsimp only)); at_builtin; refine Kd.R_append k33 (w0 := w) w.heap.size rfl (.tmp 107) (.tmp 109) 25 33 (.agg #[(.int .i64 0), (.string ⟨#[]⟩), (.int .i64 0)]) 32 rfl Try.underlying25 info33 rfl (by decide) (by omega) u5 x5_1 (⟨3, strOfNums y521, (x4_1.size : Int)⟩ : S33) [.int .i64 3, .string (strOfNums y521), .int .i64 (x4_1.size : Int)] (fun k_ => k_ ≠ gb498) (fun _ => False) rfl (by first | (go_simp; done) | (go_simp; rfl)) ?aP (fun _ hk => hk.elim) ?aF ?aO ?aB ?aS ?aL ?_; (case aP => exact k33_mkM _ _ _ (⟨3, strOfNums y521, (x4_1.size : Int)⟩ : S33)); (case aB => exact (by repeat (first | (with_reducible first | exact HB.out | apply below_alloc | apply pw_below_drewN | apply below_drew1 | refine below_set ?_ GE498.out) | exact HB.out))); (case aF => exact (fun k_ hk => Kd.freshB (g := gb498) (o := .cells #[.int .i64 3, .string (strOfNums y521), .int .i64 (x4_1.size : Int)] 33 (0, 0)) (by (with_reducible repeat (first | refine blk_drewN ?_ _ | refine blk_drew ?_ | refine blk_alloc ?_ _)); refine blk_put (cs := #[.int .i64 3, .string (⟨#[]⟩ : ByteArray), .int .i64 (x4_1.size : Int)]) ?_ 1 _ rfl; (with_reducible repeat (first | refine blk_drewN ?_ _ | refine blk_drew ?_ | refine blk_alloc ?_ _)); exact BK498.out) k_ hk)); (case aO => exact (by (with_reducible repeat (first | apply Kd.R_alloc | apply Kd.R_drewN | apply Kd.R_drew)); exact Kd.R_mono (Kd.R_far (p := ⟨gb498, 1, none⟩) (Kd.R_mono HO_5.out (fun k_ hk => (⟨hk, hk⟩ : _ ∧ k_ ≠ gb498))) (fun _ hk => hk.2) (.string (strOfNums y521))) (fun _ hk => hk.1))); (case aS => exact (below_size (by repeat (first | (with_reducible first | exact HB.out | apply below_alloc | apply pw_below_drewN | apply below_drew1 | refine below_set ?_ GE498.out) | exact HB.out)))); (case aL => have := LMc54.out; omega); intro v525 w66 ho hb hg hat; rw [← Ny524.out] at ho; have n0_ := Aside0.mk (Kd.R_over' (by (with_reducible repeat (first | apply Kd.R_alloc | apply Kd.R_drewN | apply Kd.R_drew)); exact (Kd.R_mono (Kd.R_far (p := ⟨gb498, 1, none⟩) (Kd.R_types HO_6.out BK498.out (by decide)) (fun _ hk => hk.2) (.string (strOfNums y521))) (fun _ h_ => h_.1))) (Kd.R_typed (by (with_reducible repeat (first | apply Kd.R_alloc | apply Kd.R_drewN | apply Kd.R_drew)); exact (Kd.R_mono (Kd.R_far (p := ⟨gb498, 1, none⟩) (Kd.R_mono HO_5.out (fun k_ hk => (⟨hk, hk⟩ : _ ∧ k_ ≠ gb498))) (fun _ hk => hk.2) (.string (strOfNums y521))) (fun _ h_ => h_.1)))) (by decide) hg); have n1_ := Aside0.mk (blk_grown (g := gb498) (o := .cells #[.int .i64 3, .string (strOfNums y521), .int .i64 (x4_1.size : Int)] 33 (0, 0)) (by (with_reducible repeat (first | refine blk_drewN ?_ _ | refine blk_drew ?_ | refine blk_alloc ?_ _)); refine blk_put (cs := #[.int .i64 3, .string (⟨#[]⟩ : ByteArray), .int .i64 (x4_1.size : Int)]) ?_ 1 _ rfl; (with_reducible repeat (first | refine blk_drewN ?_ _ | refine blk_drew ?_ | refine blk_alloc ?_ _)); exact BK498.out) hg (Kd.R_away HO_5.out (fun _ hk => hk))); have n2_ := Aside0.mk (Kd.R_over' (by (with_reducible repeat (first | apply Kd.R_alloc | apply Kd.R_drewN | apply Kd.R_drew)); exact (Kd.R_mono (Kd.R_far (p := ⟨gb498, 1, none⟩) (Kd.R_types HO523.out BK498.out (by decide)) (fun _ hk => hk.2) (.string (strOfNums y521))) (fun _ h_ => h_.1))) (Kd.R_typed (by (with_reducible repeat (first | apply Kd.R_alloc | apply Kd.R_drewN | apply Kd.R_drew)); exact (Kd.R_mono (Kd.R_far (p := ⟨gb498, 1, none⟩) (Kd.R_mono HO_5.out (fun k_ hk => (⟨hk, hk⟩ : _ ∧ k_ ≠ gb498))) (fun _ hk => hk.2) (.string (strOfNums y521))) (fun _ h_ => h_.1)))) (by decide) hg); have n3_ := Aside0.mk (hb); have n4_ := Aside0.mk (ho); clear HO_6; clear BK498; clear HO523; clear HB; clear HO_5; have HO_6 := n0_; have BK498 := n1_; have HO523 := n2_; have HB := n3_; have HO526 := n4_; clear n0_ n1_ n2_ n3_ n4_; clear ho hb hg hat))
                                  go_roundg kj8
                                  case measure => have := HK1.out; have := HJ8.out; omega
                                  case rel => exact ⟨((x4_1 ++ (strOfNums y521)) ++ (⟨#[32]⟩ : ByteArray)), (y524), (wrap64 (x7_1 + 1)), (by first | rfl | (simp; done) | (simp [*]; done)), (by first | rfl | (simp; done) | (simp [*]; done)), H', ⟨by have := HK1.out; have := HJ8.out; omega⟩, ⟨by (with_reducible repeat (first | apply Kd.R_alloc | apply Kd.R_drewN | apply Kd.R_drew)); exact Kd.R_mono HO526.out (fun _ hk => trivial)⟩, ⟨by (with_reducible repeat (first | apply Kd.R_alloc | apply Kd.R_drewN | apply Kd.R_drew)); exact HO_6.out⟩, ⟨by repeat (first | (with_reducible first | exact HB.out | apply below_alloc | apply pw_below_drewN | apply below_drew1 | refine below_set ?_ GE498.out) | exact HB.out)⟩⟩
                                · rw [if_neg c56] at H
                                  exact absurd H (by simp)
                              · rw [if_neg c55] at H
                                exact absurd H (by simp)
                            · rw [if_neg c54] at H
                              exact absurd H (by simp)
                          · rw [if_neg c53] at H
                            have c53b0 : ((Int.tmod (wrap64 (rd l0 x7_1)) 4) == 3) = false := beq_eq_false_iff_ne.mpr c53
                            have c53b1 : ((Int.tmod (wrap64 (rd l0 x7_1)) 4) != 3) = true := bne_iff_ne.mpr c53
                            by_cases c67 : x5_1.length < 4398046511104
                            · rw [if_pos c67] at H
                              have LMc67 := Aside0.mk c67
                              clear c67
                              obtain ⟨y527, hy527⟩ : ∃ y_ : List (S33), y_ = (x5_1 ++ [(⟨4, (⟨#[]⟩ : ByteArray), (x4_1.size : Int)⟩ : S33)]) := ⟨_, rfl⟩
                              replace H : (if x4_1.size + 0 ≤ 9223372036854775807 then (if (x4_1 ++ (⟨#[]⟩ : ByteArray)).size + 1 ≤ 9223372036854775807 then (archivistlaw07_LexApart.l0 kj8 l0 true ((x4_1 ++ (⟨#[]⟩ : ByteArray)) ++ (⟨#[32]⟩ : ByteArray)) y527 t494 (wrap64 (x7_1 + 1))) else (none)) else (none)) = some r := by first | (rw [hy527]; with_reducible exact H) | (have H2_ := (Option.bind_some _ _).symm.trans H; rw [hy527]; with_reducible exact H2_) | (have H2_ := (Option.bind_some _ _).symm.trans H; with_reducible exact H2_) | with_reducible exact H | (rw [hy527]; exact H) | exact H
                              have Ny527 := Aside0.mk hy527
                              clear hy527
                              by_cases c68 : x4_1.size + 0 ≤ 9223372036854775807
                              · rw [if_pos c68] at H
                                have c68b0 := eq_true c68
                                have c68b1 : decide (x4_1.size + 0 ≤ 9223372036854775807) = true := decide_eq_true c68
                                try have c68b2 : (9223372036854775807 < x4_1.size + 0) = False := eq_false (Nat.not_lt.2 c68)
                                by_cases c69 : (x4_1 ++ (⟨#[]⟩ : ByteArray)).size + 1 ≤ 9223372036854775807
                                · rw [if_pos c69] at H
                                  have c69b0 := eq_true c69
                                  have c69b1 : decide ((x4_1 ++ (⟨#[]⟩ : ByteArray)).size + 1 ≤ 9223372036854775807) = true := decide_eq_true c69
                                  try have c69b2 : (9223372036854775807 < (x4_1 ++ (⟨#[]⟩ : ByteArray)).size + 1) = False := eq_false (Nat.not_lt.2 c69)
                                  try (have c69b3 : (9223372036854775807 < (x4_1 ++ (⟨#[]⟩ : ByteArray)).size + 1) = False := eq_false (Nat.not_lt.2 c69); simp only [ByteArray.size_append, show (⟨#[]⟩ : ByteArray).size = 0 from rfl, Nat.add_zero, Nat.zero_add] at c69b3)
                                  have H' := Aside0.mk H
                                  clear H
                                  have p497 : 0 ≤ (x7_1 : Int) := of_decide_eq_true (by first | (with_reducible assumption) | assumption)
                                  have q497 : x7_1 < (l0.length : Int) := of_decide_eq_true (by first | (with_reducible assumption) | assumption)
                                  obtain ⟨ad497, e497, hx497_0⟩ := Kd.at_int HR0.out x7_1 p497 q497
                                  cases e497
                                  replace hx497_0 := (HB.out.cell (World.block_lt_of_cell? w _ hx497_0)).trans hx497_0
                                  replace p497 := eq_true p497
                                  replace q497 := eq_true q497
                                  go_wp2_with (first | ((with_reducible refine gate_dst (N := 9) rfl ?_); (try (refine gate_guard (by rfl) ?_; dsimp only)); refine box_event ?hg (N := 9) ?hd (cs := #[.int .i64 0, .string (⟨#[]⟩ : ByteArray), .int .i64 0]) (t := 33) ?hr ?_; (case hd => rfl); (case hg => rfl); (case hr => first | (go_simp; done) | (go_simp; rfl)); intro gb498 hg w70 hbox hb; have n0_ := Aside0.mk (Kd.R_below (Kd.R_elderB (by (with_reducible repeat (first | apply Kd.R_alloc | apply Kd.R_drewN | apply Kd.R_drew)); exact HO_5.out) gb498 (Nat.le_of_eq hg.symm)) hb); have n1_ := Aside0.mk (Kd.R_below (by (with_reducible repeat (first | apply Kd.R_alloc | apply Kd.R_drewN | apply Kd.R_drew)); exact HO_6.out) hb); have n2_ := Aside0.mk (below_step (by repeat (first | (with_reducible first | exact HB.out | apply below_alloc | apply pw_below_drewN | apply below_drew1) | exact HB.out)) hb); have n3_ := Aside0.mk (hbox); have n4_ := Aside0.mk ((by rw [hg]; exact (below_size (by repeat (first | (with_reducible first | exact HB.out | apply below_alloc | apply pw_below_drewN | apply below_drew1) | exact HB.out))) : w.heap.size ≤ gb498)); have n5_ := Aside0.mk ((by rw [hg]; exact (below_size (by repeat (first | (with_reducible first | exact HB.out | apply below_alloc | apply pw_below_drewN | apply below_drew1) | exact HB.out))) : w.heap.size ≤ gb498)); clear HO_5; clear HO_6; clear HB; have HO_5 := n0_; have HO_6 := n1_; have HB := n2_; have BK498 := n3_; have GW498 := n4_; have GE498 := n5_; clear n0_ n1_ n2_ n3_ n4_ n5_; clear hb hbox hg; have hcz71_0 : w70.cell? ⟨gb498, 0, none⟩ = some (.int .i64 0) := (blk_cell BK498.out 0).trans rfl; have hcz71_1 : w70.cell? ⟨gb498, 1, none⟩ = some (.string (⟨#[]⟩ : ByteArray)) := (blk_cell BK498.out 1).trans rfl; have hcz71_2 : w70.cell? ⟨gb498, 2, none⟩ = some (.int .i64 0) := (blk_cell BK498.out 2).trans rfl; have hfz71_0 := blk_frozen BK498.out 0; have hfz71_1 := blk_frozen BK498.out 1; have hfz71_2 := blk_frozen BK498.out 2) | ((with_reducible refine gate_builtin (b := .append) (xs := #[.tmp 107, .tmp 109]) rfl ?_); (try (refine gate_guard (by rfl) ?_; dsimp only)); at_builtin; refine Kd.R_append k33 (w0 := w) w.heap.size rfl (.tmp 107) (.tmp 109) 25 33 (.agg #[(.int .i64 0), (.string ⟨#[]⟩), (.int .i64 0)]) 32 rfl Try.underlying25 info33 rfl (by decide) (by omega) u5 x5_1 (⟨4, (⟨#[]⟩ : ByteArray), (x4_1.size : Int)⟩ : S33) [.int .i64 4, .string (⟨#[]⟩ : ByteArray), .int .i64 (x4_1.size : Int)] (fun k_ => k_ ≠ gb498) (fun _ => False) rfl (by first | (go_simp; done) | (go_simp; rfl)) ?aP (fun _ hk => hk.elim) ?aF ?aO ?aB ?aS ?aL ?_; (case aP => exact k33_mkM _ _ _ (⟨4, (⟨#[]⟩ : ByteArray), (x4_1.size : Int)⟩ : S33)); (case aB => exact (by repeat (first | (with_reducible first | exact HB.out | apply below_alloc | apply pw_below_drewN | apply below_drew1 | refine below_set ?_ GE498.out) | exact HB.out))); (case aF => exact (fun k_ hk => Kd.freshB (g := gb498) (o := .cells #[.int .i64 4, .string (⟨#[]⟩ : ByteArray), .int .i64 (x4_1.size : Int)] 33 (0, 0)) (by (with_reducible repeat (first | refine blk_drewN ?_ _ | refine blk_drew ?_ | refine blk_alloc ?_ _)); refine blk_put (cs := #[.int .i64 4, .string (⟨#[]⟩ : ByteArray), .int .i64 0]) ?_ 2 _ rfl; (with_reducible repeat (first | refine blk_drewN ?_ _ | refine blk_drew ?_ | refine blk_alloc ?_ _)); refine blk_put (cs := #[.int .i64 4, .string (⟨#[]⟩ : ByteArray), .int .i64 0]) ?_ 1 _ rfl; (with_reducible repeat (first | refine blk_drewN ?_ _ | refine blk_drew ?_ | refine blk_alloc ?_ _)); refine blk_put (cs := #[.int .i64 0, .string (⟨#[]⟩ : ByteArray), .int .i64 0]) ?_ 0 _ rfl; (with_reducible repeat (first | refine blk_drewN ?_ _ | refine blk_drew ?_ | refine blk_alloc ?_ _)); exact BK498.out) k_ hk)); (case aO => exact (by (with_reducible repeat (first | apply Kd.R_alloc | apply Kd.R_drewN | apply Kd.R_drew)); exact Kd.R_mono (Kd.R_far (p := ⟨gb498, 2, none⟩) (Kd.R_far (p := ⟨gb498, 1, none⟩) (Kd.R_far (p := ⟨gb498, 0, none⟩) (Kd.R_mono HO_5.out (fun k_ hk => (⟨hk, hk.2⟩ : _ ∧ k_ ≠ gb498))) (fun _ hk => hk.2) (.int .i64 4)) (fun _ hk => hk.2) (.string (⟨#[]⟩ : ByteArray))) (fun _ hk => hk.2) (.int .i64 (x4_1.size : Int))) (fun _ hk => hk.1.2))); (case aS => exact (below_size (by repeat (first | (with_reducible first | exact HB.out | apply below_alloc | apply pw_below_drewN | apply below_drew1 | refine below_set ?_ GE498.out) | exact HB.out)))); (case aL => have := LMc67.out; omega); intro v528 w72 ho hb hg hat; rw [← Ny527.out] at ho; have n0_ := Aside0.mk (Kd.R_over' (by (with_reducible repeat (first | apply Kd.R_alloc | apply Kd.R_drewN | apply Kd.R_drew)); exact (Kd.R_mono (Kd.R_far (p := ⟨gb498, 2, none⟩) (Kd.R_far (p := ⟨gb498, 1, none⟩) (Kd.R_far (p := ⟨gb498, 0, none⟩) (Kd.R_types HO_6.out BK498.out (by decide)) (fun _ hk => hk.2) (.int .i64 4)) (fun _ hk => hk.2) (.string (⟨#[]⟩ : ByteArray))) (fun _ hk => hk.2) (.int .i64 (x4_1.size : Int))) (fun _ h_ => h_.1))) (Kd.R_typed (by (with_reducible repeat (first | apply Kd.R_alloc | apply Kd.R_drewN | apply Kd.R_drew)); exact (Kd.R_mono (Kd.R_far (p := ⟨gb498, 2, none⟩) (Kd.R_far (p := ⟨gb498, 1, none⟩) (Kd.R_far (p := ⟨gb498, 0, none⟩) (Kd.R_mono HO_5.out (fun k_ hk => (⟨hk, hk.2⟩ : _ ∧ k_ ≠ gb498))) (fun _ hk => hk.2) (.int .i64 4)) (fun _ hk => hk.2) (.string (⟨#[]⟩ : ByteArray))) (fun _ hk => hk.2) (.int .i64 (x4_1.size : Int))) (fun _ h_ => h_.1)))) (by decide) hg); have n1_ := Aside0.mk (blk_grown (g := gb498) (o := .cells #[.int .i64 4, .string (⟨#[]⟩ : ByteArray), .int .i64 (x4_1.size : Int)] 33 (0, 0)) (by (with_reducible repeat (first | refine blk_drewN ?_ _ | refine blk_drew ?_ | refine blk_alloc ?_ _)); refine blk_put (cs := #[.int .i64 4, .string (⟨#[]⟩ : ByteArray), .int .i64 0]) ?_ 2 _ rfl; (with_reducible repeat (first | refine blk_drewN ?_ _ | refine blk_drew ?_ | refine blk_alloc ?_ _)); refine blk_put (cs := #[.int .i64 4, .string (⟨#[]⟩ : ByteArray), .int .i64 0]) ?_ 1 _ rfl; (with_reducible repeat (first | refine blk_drewN ?_ _ | refine blk_drew ?_ | refine blk_alloc ?_ _)); refine blk_put (cs := #[.int .i64 0, .string (⟨#[]⟩ : ByteArray), .int .i64 0]) ?_ 0 _ rfl; (with_reducible repeat (first | refine blk_drewN ?_ _ | refine blk_drew ?_ | refine blk_alloc ?_ _)); exact BK498.out) hg (Kd.R_away HO_5.out (fun _ hk => hk.2))); have n2_ := Aside0.mk (hb); have n3_ := Aside0.mk (ho); clear HO_6; clear BK498; clear HB; clear HO_5; have HO_6 := n0_; have BK498 := n1_; have HB := n2_; have HO529 := n3_; clear n0_ n1_ n2_ n3_; clear ho hb hg hat))
                                  go_roundg kj8
                                  case measure => have := HK1.out; have := HJ8.out; omega
                                  case rel => exact ⟨((x4_1 ++ (⟨#[]⟩ : ByteArray)) ++ (⟨#[32]⟩ : ByteArray)), (y527), (wrap64 (x7_1 + 1)), (by first | rfl | (simp; done) | (simp [*]; done)), (by first | rfl | (simp; done) | (simp [*]; done)), H', ⟨by have := HK1.out; have := HJ8.out; omega⟩, ⟨by (with_reducible repeat (first | apply Kd.R_alloc | apply Kd.R_drewN | apply Kd.R_drew)); exact Kd.R_mono HO529.out (fun _ hk => trivial)⟩, ⟨by (with_reducible repeat (first | apply Kd.R_alloc | apply Kd.R_drewN | apply Kd.R_drew)); exact HO_6.out⟩, ⟨by repeat (first | (with_reducible first | exact HB.out | apply below_alloc | apply pw_below_drewN | apply below_drew1 | refine below_set ?_ GE498.out) | exact HB.out)⟩⟩
                                · rw [if_neg c69] at H
                                  exact absurd H (by simp)
                              · rw [if_neg c68] at H
                                exact absurd H (by simp)
                            · rw [if_neg c67] at H
                              exact absurd H (by simp)
                  · rw [if_neg c13] at H
                    exact absurd H (by simp)
                · rw [if_neg c12] at H
                  exact absurd H (by simp)
              · replace c11 := Bool.eq_false_iff.mpr c11
                subst c11
                have H1 : ((lex_All.f kj8 x4_1).bind fun bt530 => (if (bt530.1.length : Int) = (x5_1.length : Int) then (archivistlaw07_LexApart.l1 kj8 true x4_1 x5_1 bt530.1 bt530.2.1 bt530.2.2 0) else (none))) = some r := by rw [if_neg (show ¬ (false = true) by decide)] at H; exact H
                clear H
                have H := H1
                clear H1
                replace H := Option.bind_eq_some_iff.mp H
                obtain ⟨⟨t530, t531, t532⟩, A730, H⟩ := H
                replace H : (if (t530.length : Int) = (x5_1.length : Int) then (archivistlaw07_LexApart.l1 kj8 true x4_1 x5_1 t530 t531 t532 0) else (none)) = some r := H
                have A73 := Aside0.mk A730
                clear A730
                by_cases c74 : (t530.length : Int) = (x5_1.length : Int)
                · rw [if_pos c74] at H
                  have c74b0 : ((t530.length : Int) == (x5_1.length : Int)) = true := beq_iff_eq.mpr c74
                  have c74b1 : ((t530.length : Int) != (x5_1.length : Int)) = false := bne_eq_false_iff_eq.mpr c74
                  have c74b2 : (t530.length == x5_1.length) = true := by first | simpa using c74 | (simp at c74 ⊢; omega)
                  clear c74
                  have H' := Aside0.mk H
                  clear H
                  go_wp2_with (first | ((with_reducible refine gate_callee (f := 17) rfl ?_); refine goesL_ (some 117) rfl rfl Try.func17 (by kernel_rfl) rfl #[.string x4_1] rfl (by (try simp only [List.map_toArray, List.map_cons, List.map_nil]); first | done | rfl | (simp only [List.length_drop, List.length_take]; rfl)) ?_; (with_reducible refine (lex_All.calls kj8 x4_1 t530 t531 t532 _ A73.out).mono ?_); rintro e w75 ⟨v533, rfl, ho0, hb⟩; refine ⟨_, rfl, ?_⟩; have n0_ := Aside0.mk (Kd.R_elder' (by (with_reducible repeat (first | apply Kd.R_alloc | apply Kd.R_drewN | apply Kd.R_drew)); exact HO_5.out) (Kd.R_base ho0) hb); have n1_ := Aside0.mk (Kd.R_below (by (with_reducible repeat (first | apply Kd.R_alloc | apply Kd.R_drewN | apply Kd.R_drew)); exact HO_6.out) hb); have n2_ := Aside0.mk (Kd.R_lower (Kd.R_new' ho0 (Kd.R_lt (by (with_reducible repeat (first | apply Kd.R_alloc | apply Kd.R_drewN | apply Kd.R_drew)); exact HO_5.out))) (below_size (by repeat (first | (with_reducible first | exact HB.out | apply below_alloc | apply pw_below_drewN | apply below_drew1) | exact HB.out)))); have n3_ := Aside0.mk (below_step (by repeat (first | (with_reducible first | exact HB.out | apply below_alloc | apply pw_below_drewN | apply below_drew1) | exact HB.out)) hb); clear HO_5; clear HO_6; clear HB; have HO_5 := n0_; have HO_6 := n1_; have HO534 := n2_; have HB := n3_; clear n0_ n1_ n2_ n3_; (try clear hb); (try clear hb2); (try clear hk); (try clear hi); (try clear ho0); obtain ⟨Ao76, co76, eo76⟩ := Kd.R_slice HO534.out; subst eo76; obtain ⟨Ao77, co77, eo77⟩ := Kd.R_slice HO_5.out; subst eo77))
                  go_loopg [14] kj8 (fun kq v14 w' => ∃ (x14_3 : Int), v14 = .int .i64 x14_3 ∧ Aside0 (archivistlaw07_LexApart.l1 kq true x4_1 x5_1 t530 t531 t532 x14_3 = some r) ∧ Aside0 (kq ≤ kj8) ∧ Aside0 (Kd.R k33 33 w' w.heap.size (fun k_ => some k_ ≠ ((.slice Ao76 t530.length co76) : Value).ownBlock) (.slice Ao77 x5_1.length co77) x5_1) ∧ Aside0 (Kd.R k33 33 w' w.heap.size (fun k_ => some k_ ≠ ((.slice Ao77 x5_1.length co77) : Value).ownBlock) (.slice Ao76 t530.length co76) t530) ∧ Aside0 (Below w.heap.size w w'))
                  case atStart => exact ⟨(0), (by first | rfl | (simp; done) | (simp [*]; done)), H', ⟨Nat.le_refl _⟩, ⟨by (with_reducible repeat (first | apply Kd.R_alloc | apply Kd.R_drewN | apply Kd.R_drew)); exact Kd.R_mono HO_5.out (fun _ hk => hk.2)⟩, ⟨by (with_reducible repeat (first | apply Kd.R_alloc | apply Kd.R_drewN | apply Kd.R_drew)); exact Kd.R_mono HO534.out (fun _ hk => hk.2)⟩, ⟨by repeat (first | (with_reducible first | exact HB.out | apply below_alloc | apply pw_below_drewN | apply below_drew1) | exact HB.out)⟩⟩
                  case round =>
                    clear H'
                    try clear c1
                    try clear p2
                    try clear c3
                    try clear c4
                    try clear p4
                    try clear q4
                    try clear hx4
                    try clear hcv4
                    try clear c5
                    try clear p5
                    try clear q5
                    try clear hx5
                    try clear c6
                    try clear p6
                    try clear hcv6
                    try clear c7
                    try clear c11
                    try clear c12
                    try clear c13
                    try clear c17
                    try clear c38
                    try clear c38b0
                    try clear c38b1
                    try clear c39
                    try clear c39b0
                    try clear c39b1
                    try clear c39b2
                    try clear c40
                    try clear c41
                    try clear c41b0
                    try clear c41b1
                    try clear c41b2
                    try clear c42
                    try clear c42b0
                    try clear c42b1
                    try clear c42b2
                    try clear p49
                    try clear q49
                    try clear hx49
                    try clear hcv49
                    try clear p51
                    try clear q51
                    try clear hx51
                    try clear p52
                    try clear q52
                    try clear hx52
                    try clear c53
                    try clear c53b0
                    try clear c53b1
                    try clear c54
                    try clear c55
                    try clear c55b0
                    try clear c55b1
                    try clear c55b2
                    try clear c56
                    try clear c56b0
                    try clear c56b1
                    try clear c56b2
                    try clear hcv63
                    try clear p64
                    try clear c67
                    try clear c68
                    try clear c68b0
                    try clear c68b1
                    try clear c68b2
                    try clear c69
                    try clear c69b0
                    try clear c69b1
                    try clear c69b2
                    try clear c74
                    try clear c74b0
                    try clear c74b1
                    try clear c74b2
                    try clear hcz44_0
                    try clear hcz44_1
                    try clear hcz44_2
                    try clear hcz51_0
                    try clear hcz51_1
                    try clear hcz51_2
                    try clear hcz58_0
                    try clear hcz58_1
                    try clear hcz58_2
                    try clear hcz65_0
                    try clear hcz65_1
                    try clear hcz65_2
                    try clear hcz71_0
                    try clear hcz71_1
                    try clear hcz71_2
                    try clear hfz44_0
                    try clear hfz44_1
                    try clear hfz44_2
                    try clear hfz51_0
                    try clear hfz51_1
                    try clear hfz51_2
                    try clear hfz58_0
                    try clear hfz58_1
                    try clear hfz58_2
                    try clear hfz65_0
                    try clear hfz65_1
                    try clear hfz65_2
                    try clear hfz71_0
                    try clear hfz71_1
                    try clear hfz71_2
                    try clear hx497_0
                    try clear hx511_0
                    try clear hx512_0
                    try clear hx519_0
                    try clear hx520_0
                    try clear p497
                    try clear p511
                    try clear p512
                    try clear p519
                    try clear p520
                    try clear q497
                    try clear q511
                    try clear q512
                    try clear q519
                    try clear q520
                    obtain ⟨x14_3, rfl, HA, HK3, HO_5, HO_11, HB⟩ := hrel
                    cases gk with
                    | zero => exact absurd HA.out (by simp [archivistlaw07_LexApart.l1])
                    | succ k3 =>
                      have H := HA.out
                      clear HA
                      simp only [archivistlaw07_LexApart.l1] at H
                      by_cases c78 : x14_3 < (t530.length : Int)
                      · rw [if_pos c78] at H
                        have c78b0 : decide (x14_3 < (t530.length : Int)) = true := decide_eq_true c78
                        clear c78
                        by_cases c79 : 0 ≤ x14_3
                        · rw [if_pos c79] at H
                          have c79b0 : decide (0 ≤ x14_3) = true := decide_eq_true c79
                          clear c79
                          by_cases c80 : x14_3 < (x5_1.length : Int)
                          · rw [if_pos c80] at H
                            have c80b0 : decide (x14_3 < (x5_1.length : Int)) = true := decide_eq_true c80
                            clear c80
                            by_cases c81 : (!(((rd_T33 t530 x14_3).f0) == ((rd_T33 x5_1 x14_3).f0)) || (!((((rd_T33 t530 x14_3).f1).toList) == (((rd_T33 x5_1 x14_3).f1).toList)) || (!(((rd_T33 t530 x14_3).f2) == ((rd_T33 x5_1 x14_3).f2))))) = true
                            · rw [if_pos c81] at H
                              exact absurd H (by simp)
                            · rw [if_neg c81] at H
                              have c81b0 : (!(((rd_T33 t530 x14_3).f0) == ((rd_T33 x5_1 x14_3).f0)) || (!((((rd_T33 t530 x14_3).f1).toList) == (((rd_T33 x5_1 x14_3).f1).toList)) || (!(((rd_T33 t530 x14_3).f2) == ((rd_T33 x5_1 x14_3).f2))))) = false := by simpa using c81
                              clear c81
                              have H' := Aside0.mk H
                              clear H
                              try go_wp2
                              have n0_ := Aside0.mk (Kd.R_drew HO_5.out)
                              have n1_ := Aside0.mk (Kd.R_drew HO_11.out)
                              have n2_ := Aside0.mk (below_drew1 HB.out)
                              clear HO_5
                              clear HO_11
                              clear HB
                              have HO_5 := n0_
                              have HO_11 := n1_
                              have HB := n2_
                              clear n0_ n1_ n2_
                              have p535 : 0 ≤ (x14_3 : Int) := of_decide_eq_true (by first | (with_reducible assumption) | assumption)
                              have q535 : x14_3 < (t530.length : Int) := of_decide_eq_true (by first | (with_reducible assumption) | assumption)
                              obtain ⟨ad535, e535, hx535_0, hx535_1, hx535_2⟩ := at_T33 (Kd.R_reads' HO_11.out).2.2 x14_3 p535 q535
                              cases e535
                              replace p535 := eq_true p535
                              replace q535 := eq_true q535
                              have p536 : 0 ≤ (x14_3 : Int) := of_decide_eq_true (by first | (with_reducible assumption) | assumption)
                              have q536 : x14_3 < (x5_1.length : Int) := of_decide_eq_true (by first | (with_reducible assumption) | assumption)
                              obtain ⟨ad536, e536, hx536_0, hx536_1, hx536_2⟩ := at_T33 (Kd.R_reads' HO_5.out).2.2 x14_3 p536 q536
                              cases e536
                              replace p536 := eq_true p536
                              replace q536 := eq_true q536
                              refine start_ (n := 9) (S := fun w' => w'.cell? (ad535.add ((x14_3).toNat * 3)) = some (.int .i64 ((rd_T33 t530 x14_3).f0)) ∧ w'.cell? ⟨(ad535.add ((x14_3).toNat * 3)).block, (ad535.add ((x14_3).toNat * 3)).off + 1, none⟩ = some (.string ((rd_T33 t530 x14_3).f1)) ∧ w'.cell? ⟨(ad535.add ((x14_3).toNat * 3)).block, (ad535.add ((x14_3).toNat * 3)).off + 2, none⟩ = some (.int .i64 ((rd_T33 t530 x14_3).f2)) ∧ w'.cell? (ad536.add ((x14_3).toNat * 3)) = some (.int .i64 ((rd_T33 x5_1 x14_3).f0)) ∧ w'.cell? ⟨(ad536.add ((x14_3).toNat * 3)).block, (ad536.add ((x14_3).toNat * 3)).off + 1, none⟩ = some (.string ((rd_T33 x5_1 x14_3).f1)) ∧ w'.cell? ⟨(ad536.add ((x14_3).toNat * 3)).block, (ad536.add ((x14_3).toNat * 3)).off + 2, none⟩ = some (.int .i64 ((rd_T33 x5_1 x14_3).f2))) (ds := []) #[false, false, false, false, false, false, false, false, false] (by kernel_rfl) rfl rfl ⟨hx535_0, hx535_1, hx535_2, hx536_0, hx536_1, hx536_2⟩ (fun hHeld => ?_); refine with_tabW archivistlaw07_LexApart.tab39 archivistlaw07_LexApart.bits39 (fun HT_ HW_ => ?_)
                              generalize wr.drew = w82 at HO_5 HO_11 HB hx535_0 hx535_1 hx535_2 hx536_0 hx536_1 hx536_2 hHeld ⊢
                              refine pure_ (i := 0) (N := some 132) (v := ?_) (a' := ?_) #[true, false, false, false, false, false, false, false, false] rfl rfl (any_of HT_.out (by kernel_rfl)) (fun _ _ _ h => h) (Or.inl ⟨by rfl, ?_⟩) ?_ ?_
                              rotate_left
                              · intro w'
                                go_simp
                                with_reducible rfl
                              rotate_left
                              · simp only [Act.put, List.setIfInBounds_toArray, List.set_cons_zero, List.set_cons_succ, i64_w, i32_w]
                                rfl
                              refine pure_ (i := 1) (N := some 133) (v := ?_) (a' := ?_) #[true, true, false, false, false, false, false, false, false] rfl rfl (any_of HT_.out (by kernel_rfl)) (fun _ _ _ h => h) (Or.inl ⟨by rfl, ?_⟩) ?_ ?_
                              rotate_left
                              · intro w'
                                go_simp
                                with_reducible rfl
                              rotate_left
                              · simp only [Act.put, List.setIfInBounds_toArray, List.set_cons_zero, List.set_cons_succ, i64_w, i32_w]
                                rfl
                              refine pure_ (i := 2) (N := some 134) (v := ?_) (a' := ?_) #[true, true, true, false, false, false, false, false, false] rfl rfl (any_of HT_.out (by kernel_rfl)) (fun _ _ _ h => h) (Or.inl ⟨by rfl, ?_⟩) ?_ ?_
                              rotate_left
                              · intro w'
                                go_simp
                                with_reducible rfl
                              rotate_left
                              · simp only [Act.put, List.setIfInBounds_toArray, List.set_cons_zero, List.set_cons_succ, i64_w, i32_w]
                                rfl
                              refine pure_ (i := 4) (N := some 136) (v := ?_) (a' := ?_) #[true, true, true, false, true, false, false, false, false] rfl rfl (any_of HT_.out (by kernel_rfl)) (fun _ _ _ h => h) (Or.inl ⟨by rfl, ?_⟩) ?_ ?_
                              rotate_left
                              · intro w'
                                go_simp
                                with_reducible rfl
                              rotate_left
                              · simp only [Act.put, List.setIfInBounds_toArray, List.set_cons_zero, List.set_cons_succ, i64_w, i32_w]
                                rfl
                              refine pure_ (i := 5) (N := some 137) (v := ?_) (a' := ?_) #[true, true, true, false, true, true, false, false, false] rfl rfl (any_of HT_.out (by kernel_rfl)) (fun _ _ _ h => h) (Or.inl ⟨by rfl, ?_⟩) ?_ ?_
                              rotate_left
                              · intro w'
                                go_simp
                                with_reducible rfl
                              rotate_left
                              · simp only [Act.put, List.setIfInBounds_toArray, List.set_cons_zero, List.set_cons_succ, i64_w, i32_w]
                                rfl
                              refine pure_ (i := 6) (N := some 138) (v := ?_) (a' := ?_) #[true, true, true, false, true, true, true, false, false] rfl rfl (any_of HT_.out (by kernel_rfl)) (fun _ _ _ h => h) (Or.inl ⟨by rfl, ?_⟩) ?_ ?_
                              rotate_left
                              · intro w'
                                go_simp
                                with_reducible rfl
                              rotate_left
                              · simp only [Act.put, List.setIfInBounds_toArray, List.set_cons_zero, List.set_cons_succ, i64_w, i32_w]
                                rfl
                              refine take_ (i := 3) (N := some 135) (v := ?_) (a' := ?_) #[true, true, true, true, true, true, true, false, false] rfl rfl (take_ofW HT_.out HW_.out (by kernel_rfl)) (fun _ _ _ h => h) (Or.inl ⟨by rfl, ?_⟩) hHeld ?_ ?_
                              rotate_left
                              · rintro w' ⟨s0, s1, s2, s3, s4, s5⟩
                                go_simp
                                with_reducible rfl
                              rotate_left
                              · simp only [Act.put, List.setIfInBounds_toArray, List.set_cons_zero, List.set_cons_succ, i64_w, i32_w]
                                rfl
                              refine take_ (i := 7) (N := some 139) (v := ?_) (a' := ?_) #[true, true, true, true, true, true, true, true, false] rfl rfl (take_ofW HT_.out HW_.out (by kernel_rfl)) (fun _ _ _ h => h) (Or.inl ⟨by rfl, ?_⟩) hHeld ?_ ?_
                              rotate_left
                              · rintro w' ⟨s0, s1, s2, s3, s4, s5⟩
                                go_simp
                                with_reducible rfl
                              rotate_left
                              · simp only [Act.put, List.setIfInBounds_toArray, List.set_cons_zero, List.set_cons_succ, i64_w, i32_w]
                                rfl
                              refine pure_ (i := 8) (N := some 140) (v := ?_) (a' := ?_) #[true, true, true, true, true, true, true, true, true] rfl rfl (any_of HT_.out (by kernel_rfl)) (fun _ _ _ h => h) (Or.inl ⟨by rfl, ?_⟩) ?_ ?_
                              rotate_left
                              · intro w'
                                go_simp
                                with_reducible rfl
                              rotate_left
                              · simp only [Act.put, List.setIfInBounds_toArray, List.set_cons_zero, List.set_cons_succ, i64_w, i32_w]
                                rfl
                              refine done_ (done_of HT_.out (by kernel_rfl)) ?_
                              try go_wp2
                              go_roundg k3
                              case measure => have := HK1.out; have := HJ8.out; have := HK3.out; omega
                              case rel => exact ⟨(wrap64 (x14_3 + 1)), (by first | rfl | (simp; done) | (simp [*]; done)), H', ⟨by have := HK1.out; have := HJ8.out; have := HK3.out; omega⟩, ⟨by (with_reducible repeat (first | apply Kd.R_alloc | apply Kd.R_drewN | apply Kd.R_drew)); exact HO_5.out⟩, ⟨by (with_reducible repeat (first | apply Kd.R_alloc | apply Kd.R_drewN | apply Kd.R_drew)); exact HO_11.out⟩, ⟨by repeat (first | (with_reducible first | exact HB.out | apply below_alloc | apply pw_below_drewN | apply below_drew1) | exact HB.out)⟩⟩
                          · rw [if_neg c80] at H
                            exact absurd H (by simp)
                        · rw [if_neg c79] at H
                          exact absurd H (by simp)
                      · rw [if_neg c78] at H
                        have c78b0 : decide (x14_3 < (t530.length : Int)) = false := decide_eq_false c78
                        clear c78
                        by_cases c83 : true = true
                        · clear c83
                          have H1 : (if t532 = 0 then (some (t531 == (x4_1.size : Int))) else (none)) = some r := by first | (rw [if_pos rfl] at H; exact H) | (rw [if_pos trivial] at H; exact H)
                          clear H
                          have H := H1
                          clear H1
                          by_cases c84 : t532 = 0
                          · rw [if_pos c84] at H
                            have c84b0 : (t532 == 0) = true := beq_iff_eq.mpr c84
                            have c84b1 : (t532 != 0) = false := bne_eq_false_iff_eq.mpr c84
                            clear c84
                            obtain rfl := Option.some.inj H
                            go_wp2
                            go_ret
                            exact ⟨by first | rfl | (simp [errW_none, errW_some] <;> rfl) | (simp [*, errW_none, errW_some] <;> rfl), by repeat (first | (with_reducible first | exact HB.out | apply below_alloc | apply pw_below_drewN | apply below_drew1) | exact HB.out)⟩
                          · rw [if_neg c84] at H
                            exact absurd H (by simp)
                        · exact absurd rfl c83
                · rw [if_neg c74] at H
                  exact absurd H (by simp)
  · replace c3 := Bool.eq_false_iff.mpr c3
    subst c3
    have H1 : (none) = some r := by rw [if_neg (show ¬ (false = true) by decide)] at H; exact H
    clear H
    have H := H1
    clear H1
    exact absurd H (by simp)

/-- THE ONE PURE STATEMENT of archivistlaw07_LexApart: yours. -/
def archivistlaw07_LexApart.Pure : Prop := ∀ (l0 : List Int), l0.length ≤ maxLen → l0.length * 1 ≤ 140737488351232 → (∀ x ∈ l0, (Lit.int .u8 x).wf = true) → ∃ k, archivistlaw07_LexApart.f k l0 = some true
theorem archivistlaw07_LexApart.walk (P : archivistlaw07_LexApart.Pure) (a0 : Option Addr) (len0 cap0 : Nat) (z0 : List Int) (w : World) (w0 : (a0 = none ∧ len0 = 0 ∧ cap0 = 0 ∧ z0 = []) ∨ ∃ x, a0 = some x ∧ len0 ≤ cap0 ∧ cap0 ≤ maxLen ∧ z0.length = cap0 ∧ (∀ i, i < z0.length → w.cell? (x.add i) = some (.int .u8 (z0.getD i 0))) ∧ ∀ n ∈ z0, (Lit.int .u8 n).wf = true) (y0 : len0 * 1 ≤ 140737488351232) :
    Calls Try.prog 7 #[.slice a0 len0 cap0] w fun e w' => e = .returned (.bool true) ∧ Below w.heap.size w w' := by
  obtain ⟨l0, rfl, hr0, hm0, hw0, hc0⟩ := ReadsInt.ofRowC w0
  obtain ⟨k, h⟩ := P l0 hm0 y0 hw0
  refine (archivistlaw07_LexApart.calls k _ _ l0 true w (Kd.C_of_reads (d := (0 : Int)) (h1 := fun _ => rfl) hr0) hc0 h).mono ?_
  rintro e w' ⟨rfl, hd⟩
  exact ⟨rfl, hd⟩

end Go.Proofs.Ytifcnblgpnfehaa.X
