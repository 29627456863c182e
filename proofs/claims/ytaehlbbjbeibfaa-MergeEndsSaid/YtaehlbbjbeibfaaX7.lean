-- Laid by xprint.py, a program of this session's, out of the translation.
import Derived.Test.YtaehlbbjbeibfaaX0
namespace Go.Proofs.Ytaehlbbjbeibfaa.X
open Go.RowKit Go.Proofs.YtaehlbbjbeibfaaW.PrintWords Go.Proofs.YtaehlbbjbeibfaaW.PrintLast Go.Proofs.YtaehlbbjbeibfaaW.PrintMore
attribute [local go_sem] max2_int min2_int max_two min_two max_three min_three max_four min_four x_isSome x_str_gtr x_str_leq x_str_geq   -- for this text's walks alone
set_option linter.unusedVariables false
set_option linter.unusedSimpArgs false

/-! ### archivistlaw16_Tag_tag: function 47 -/
def archivistlaw16_Tag_tag.f (a0_0 : ByteArray) (a0_1 : ByteArray) (a0_2 : Bool) (a0_3 : Int) : Option (ByteArray × ByteArray) := if a0_2 = true then ((some (([(⟨#[97, 112, 112]⟩ : ByteArray), (⟨#[101, 110, 118]⟩ : ByteArray), (⟨#[108, 118, 108]⟩ : ByteArray), (⟨#[100, 117, 114]⟩ : ByteArray), (⟨#[110]⟩ : ByteArray)] : List ByteArray) : List ByteArray)).bind fun y222 => (if 0 ≤ (Int.tmod a0_3 5) then (if (Int.tmod a0_3 5) < (y222.length : Int) then ((some (([(⟨#[97]⟩ : ByteArray), (⟨#[98]⟩ : ByteArray), (⟨#[120, 49]⟩ : ByteArray), (⟨#[53, 109]⟩ : ByteArray), (⟨#[55]⟩ : ByteArray), (⟨#[]⟩ : ByteArray), (⟨#[50, 75, 66]⟩ : ByteArray), (⟨#[97, 98]⟩ : ByteArray)] : List ByteArray) : List ByteArray)).bind fun y226 => (if 0 ≤ (((Int.tdiv a0_3 5) % 256) % 8) then (if (((Int.tdiv a0_3 5) % 256) % 8) < (y226.length : Int) then (some (rdOf ByteArray.empty y222 (Int.tmod a0_3 5), rdOf ByteArray.empty y226 (((Int.tdiv a0_3 5) % 256) % 8))) else (none)) else (none))) else (none)) else (none))) else (some (a0_0, a0_1))
def archivistlaw16_Tag_tag.T3 : Bool × List (List Nat × List Nat) := (true, [([], []), ([], []), ([1], [1]), ([2], [2]), ([0, 3], [0, 3]), ([4], [4]), ([], []), ([], []), ([7], [7]), ([8], [8]), ([9], [9]), ([6, 10], [6, 10]), ([11], [11]), ([5, 12], [5, 12]), ([13, 0, 1, 2, 3, 4, 5, 6, 7, 8, 9, 10, 11, 12, 13], [13])])
def archivistlaw16_Tag_tag.B3 : List Nat := [0, 0, 2, 6, 15, 31, 0, 0, 128, 384, 896, 1984, 4032, 8191, 16383]
theorem archivistlaw16_Tag_tag.tab3 : rtab .any (opsOf Try.f47 3) = archivistlaw16_Tag_tag.T3 := by kernel_rfl
theorem archivistlaw16_Tag_tag.bits3 : waitsOk archivistlaw16_Tag_tag.T3.2 archivistlaw16_Tag_tag.B3 = true := by kernel_rfl
set_option maxHeartbeats 8000000 in
set_option maxRecDepth 100000 in
theorem archivistlaw16_Tag_tag.calls (a0_0 : ByteArray) (a0_1 : ByteArray) (a0_2 : Bool) (a0_3 : Int) (r1 : ByteArray) (r2 : ByteArray) (w : World) (h : archivistlaw16_Tag_tag.f a0_0 a0_1 a0_2 a0_3 = some (r1, r2)) :
    Calls Try.prog 47 #[.agg #[.string a0_0, .string a0_1, .bool a0_2, .int .u8 a0_3]] w fun e w' => e = .returned (.agg #[.string r1, .string r2]) ∧ Below w.heap.size w w' := by
  have hu105 := Try.underlying105
  have hu103 := Try.underlying103
  have HB := Aside0.mk (Below.refl w.heap.size w)
  have H : (if a0_2 = true then ((some (([(⟨#[97, 112, 112]⟩ : ByteArray), (⟨#[101, 110, 118]⟩ : ByteArray), (⟨#[108, 118, 108]⟩ : ByteArray), (⟨#[100, 117, 114]⟩ : ByteArray), (⟨#[110]⟩ : ByteArray)] : List ByteArray) : List ByteArray)).bind fun y222 => (if 0 ≤ (Int.tmod a0_3 5) then (if (Int.tmod a0_3 5) < (y222.length : Int) then ((some (([(⟨#[97]⟩ : ByteArray), (⟨#[98]⟩ : ByteArray), (⟨#[120, 49]⟩ : ByteArray), (⟨#[53, 109]⟩ : ByteArray), (⟨#[55]⟩ : ByteArray), (⟨#[]⟩ : ByteArray), (⟨#[50, 75, 66]⟩ : ByteArray), (⟨#[97, 98]⟩ : ByteArray)] : List ByteArray) : List ByteArray)).bind fun y226 => (if 0 ≤ (((Int.tdiv a0_3 5) % 256) % 8) then (if (((Int.tdiv a0_3 5) % 256) % 8) < (y226.length : Int) then (some (rdOf ByteArray.empty y222 (Int.tmod a0_3 5), rdOf ByteArray.empty y226 (((Int.tdiv a0_3 5) % 256) % 8))) else (none)) else (none))) else (none)) else (none))) else (some (a0_0, a0_1))) = some (r1, r2) := h
  clear h
  by_cases c2 : a0_2 = true
  · subst c2
    have H1 : ((some (([(⟨#[97, 112, 112]⟩ : ByteArray), (⟨#[101, 110, 118]⟩ : ByteArray), (⟨#[108, 118, 108]⟩ : ByteArray), (⟨#[100, 117, 114]⟩ : ByteArray), (⟨#[110]⟩ : ByteArray)] : List ByteArray) : List ByteArray)).bind fun y222 => (if 0 ≤ (Int.tmod a0_3 5) then (if (Int.tmod a0_3 5) < (y222.length : Int) then ((some (([(⟨#[97]⟩ : ByteArray), (⟨#[98]⟩ : ByteArray), (⟨#[120, 49]⟩ : ByteArray), (⟨#[53, 109]⟩ : ByteArray), (⟨#[55]⟩ : ByteArray), (⟨#[]⟩ : ByteArray), (⟨#[50, 75, 66]⟩ : ByteArray), (⟨#[97, 98]⟩ : ByteArray)] : List ByteArray) : List ByteArray)).bind fun y226 => (if 0 ≤ (((Int.tdiv a0_3 5) % 256) % 8) then (if (((Int.tdiv a0_3 5) % 256) % 8) < (y226.length : Int) then (some (rdOf ByteArray.empty y222 (Int.tmod a0_3 5), rdOf ByteArray.empty y226 (((Int.tdiv a0_3 5) % 256) % 8))) else (none)) else (none))) else (none)) else (none))) = some (r1, r2) := by rw [if_pos rfl] at H; exact H
    clear H
    have H := H1
    clear H1
    obtain ⟨y222, hy222⟩ : ∃ y_ : List ByteArray, y_ = (([(⟨#[97, 112, 112]⟩ : ByteArray), (⟨#[101, 110, 118]⟩ : ByteArray), (⟨#[108, 118, 108]⟩ : ByteArray), (⟨#[100, 117, 114]⟩ : ByteArray), (⟨#[110]⟩ : ByteArray)] : List ByteArray)) := ⟨_, rfl⟩
    replace H : (if 0 ≤ (Int.tmod a0_3 5) then (if (Int.tmod a0_3 5) < (y222.length : Int) then ((some (([(⟨#[97]⟩ : ByteArray), (⟨#[98]⟩ : ByteArray), (⟨#[120, 49]⟩ : ByteArray), (⟨#[53, 109]⟩ : ByteArray), (⟨#[55]⟩ : ByteArray), (⟨#[]⟩ : ByteArray), (⟨#[50, 75, 66]⟩ : ByteArray), (⟨#[97, 98]⟩ : ByteArray)] : List ByteArray) : List ByteArray)).bind fun y226 => (if 0 ≤ (((Int.tdiv a0_3 5) % 256) % 8) then (if (((Int.tdiv a0_3 5) % 256) % 8) < (y226.length : Int) then (some (rdOf ByteArray.empty y222 (Int.tmod a0_3 5), rdOf ByteArray.empty y226 (((Int.tdiv a0_3 5) % 256) % 8))) else (none)) else (none))) else (none)) else (none)) = some (r1, r2) := by first | (rw [hy222]; with_reducible exact H) | (have H2_ := (Option.bind_some _ _).symm.trans H; rw [hy222]; with_reducible exact H2_) | (have H2_ := (Option.bind_some _ _).symm.trans H; with_reducible exact H2_) | with_reducible exact H | (rw [hy222]; exact H) | exact H
    have Ny222 := Aside0.mk hy222
    clear hy222
    obtain ⟨ji3, hji3⟩ : ∃ j_ : Int, (Int.tmod a0_3 5) = j_ := ⟨_, rfl⟩
    replace H : (if 0 ≤ (ji3) then (if (ji3) < (y222.length : Int) then ((some (([(⟨#[97]⟩ : ByteArray), (⟨#[98]⟩ : ByteArray), (⟨#[120, 49]⟩ : ByteArray), (⟨#[53, 109]⟩ : ByteArray), (⟨#[55]⟩ : ByteArray), (⟨#[]⟩ : ByteArray), (⟨#[50, 75, 66]⟩ : ByteArray), (⟨#[97, 98]⟩ : ByteArray)] : List ByteArray) : List ByteArray)).bind fun y226 => (if 0 ≤ (((Int.tdiv a0_3 5) % 256) % 8) then (if (((Int.tdiv a0_3 5) % 256) % 8) < (y226.length : Int) then (some (rdOf ByteArray.empty y222 (ji3), rdOf ByteArray.empty y226 (((Int.tdiv a0_3 5) % 256) % 8))) else (none)) else (none))) else (none)) else (none)) = some (r1, r2) := by first | (rw [hji3] at H; exact H) | (simp only [hji3] at H ⊢; exact H)
    by_cases c4 : 0 ≤ (ji3)
    · rw [if_pos c4] at H
      have c4b0 : decide (0 ≤ (ji3)) = true := decide_eq_true c4
      clear c4
      by_cases c5 : (ji3) < (y222.length : Int)
      · rw [if_pos c5] at H
        have c5b0 : decide ((ji3) < (y222.length : Int)) = true := decide_eq_true c5
        clear c5
        obtain ⟨y226, hy226⟩ : ∃ y_ : List ByteArray, y_ = (([(⟨#[97]⟩ : ByteArray), (⟨#[98]⟩ : ByteArray), (⟨#[120, 49]⟩ : ByteArray), (⟨#[53, 109]⟩ : ByteArray), (⟨#[55]⟩ : ByteArray), (⟨#[]⟩ : ByteArray), (⟨#[50, 75, 66]⟩ : ByteArray), (⟨#[97, 98]⟩ : ByteArray)] : List ByteArray)) := ⟨_, rfl⟩
        replace H : (if 0 ≤ (((Int.tdiv a0_3 5) % 256) % 8) then (if (((Int.tdiv a0_3 5) % 256) % 8) < (y226.length : Int) then (some (rdOf ByteArray.empty y222 (ji3), rdOf ByteArray.empty y226 (((Int.tdiv a0_3 5) % 256) % 8))) else (none)) else (none)) = some (r1, r2) := by first | (rw [hy226]; with_reducible exact H) | (have H2_ := (Option.bind_some _ _).symm.trans H; rw [hy226]; with_reducible exact H2_) | (have H2_ := (Option.bind_some _ _).symm.trans H; with_reducible exact H2_) | with_reducible exact H | (rw [hy226]; exact H) | exact H
        have Ny226 := Aside0.mk hy226
        clear hy226
        obtain ⟨ji6, hji6⟩ : ∃ j_ : Int, (((Int.tdiv a0_3 5) % 256) % 8) = j_ := ⟨_, rfl⟩
        have hw_hji6 : Int.tmod ((Int.tdiv a0_3 5) % 256) 8 = ji6 := by rw [← hji6]; exact Int.tmod_eq_emod_of_nonneg (Int.emod_nonneg _ (by decide))
        replace H : (if 0 ≤ (ji6) then (if (ji6) < (y226.length : Int) then (some (rdOf ByteArray.empty y222 (ji3), rdOf ByteArray.empty y226 (ji6))) else (none)) else (none)) = some (r1, r2) := by first | (rw [hji6] at H; exact H) | (simp only [hji6] at H ⊢; exact H)
        by_cases c7 : 0 ≤ (ji6)
        · rw [if_pos c7] at H
          have c7b0 : decide (0 ≤ (ji6)) = true := decide_eq_true c7
          clear c7
          by_cases c8 : (ji6) < (y226.length : Int)
          · rw [if_pos c8] at H
            have c8b0 : decide ((ji6) < (y226.length : Int)) = true := decide_eq_true c8
            clear c8
            simp only [Option.some.injEq, Prod.mk.injEq] at H
            obtain ⟨rfl, rfl⟩ := H
            go_enter Try.func47, Try.ntmps47
            try go_wp2_with (first | ((with_reducible refine gate_dst (N := 1) rfl ?_); refine box_event ?hg (N := 1) ?hd (cs := #[.string a0_0, .string a0_1, .bool true, .int .u8 a0_3]) (t := 105) ?hr ?_; (case hd => rfl); (case hg => rfl); (case hr => first | (go_simp; done) | (go_simp; rfl)); intro gb220 hg w9 hbox hb; have n0_ := Aside0.mk (below_step (by repeat (first | (with_reducible first | exact HB.out | apply below_alloc | apply pw_below_drewN | apply below_drew1) | exact HB.out)) hb); have n1_ := Aside0.mk (hbox); have n2_ := Aside0.mk ((by rw [hg]; exact (below_size (by repeat (first | (with_reducible first | exact HB.out | apply below_alloc | apply pw_below_drewN | apply below_drew1) | exact HB.out))) : w.heap.size ≤ gb220)); have n3_ := Aside0.mk ((by rw [hg]; exact (below_size (by repeat (first | (with_reducible first | exact HB.out | apply below_alloc | apply pw_below_drewN | apply below_drew1) | exact HB.out))) : w.heap.size ≤ gb220)); clear HB; have HB := n0_; have BK220 := n1_; have GW220 := n2_; have GE220 := n3_; clear n0_ n1_ n2_ n3_; clear hb hbox hg) | ((with_reducible refine gate_dst (N := 2) rfl ?_); refine box_event ?hg (N := 2) ?hd (cs := #[.string (⟨#[]⟩ : ByteArray), .string (⟨#[]⟩ : ByteArray)]) (t := 103) ?hr ?_; (case hd => rfl); (case hg => rfl); (case hr => first | (go_simp; done) | (go_simp; rfl)); intro gb221 hg w10 hbox hb; have n0_ := Aside0.mk (blk_below (g := gb220) (o := .cells #[.string a0_0, .string a0_1, .bool true, .int .u8 a0_3] 105 (0, 0)) (by (with_reducible repeat (first | refine blk_drewN ?_ _ | refine blk_drew ?_ | refine blk_alloc ?_ _)); exact BK220.out) hb); have n1_ := Aside0.mk (below_step (by repeat (first | (with_reducible first | exact HB.out | apply below_alloc | apply pw_below_drewN | apply below_drew1 | refine below_set ?_ GE220.out) | exact HB.out)) hb); have n2_ := Aside0.mk (hbox); have n3_ := Aside0.mk ((by rw [hg]; exact (below_size (by repeat (first | (with_reducible first | exact HB.out | apply below_alloc | apply pw_below_drewN | apply below_drew1 | refine below_set ?_ GE220.out) | exact HB.out))) : w.heap.size ≤ gb221)); have n4_ := Aside0.mk ((by rw [hg]; exact (below_size (by repeat (first | (with_reducible first | exact HB.out | apply below_alloc | apply pw_below_drewN | apply below_drew1 | refine below_set ?_ GE220.out) | exact HB.out))) : w.heap.size ≤ gb221)); have n5_ := Aside0.mk ((by rw [hg]; exact Nat.ne_of_lt (blk_lt (g := gb220) (o := .cells #[.string a0_0, .string a0_1, .bool true, .int .u8 a0_3] 105 (0, 0)) (by (with_reducible repeat (first | refine blk_drewN ?_ _ | refine blk_drew ?_ | refine blk_alloc ?_ _)); exact BK220.out)) : gb220 ≠ gb221)); have n6_ := Aside0.mk ((by rw [hg]; exact Nat.ne_of_gt (blk_lt (g := gb220) (o := .cells #[.string a0_0, .string a0_1, .bool true, .int .u8 a0_3] 105 (0, 0)) (by (with_reducible repeat (first | refine blk_drewN ?_ _ | refine blk_drew ?_ | refine blk_alloc ?_ _)); exact BK220.out)) : gb221 ≠ gb220)); clear BK220; clear HB; have BK220 := n0_; have HB := n1_; have BK221 := n2_; have GW221 := n3_; have GE221 := n4_; have NB220_221 := n5_; have NB221_220 := n6_; clear n0_ n1_ n2_ n3_ n4_ n5_ n6_; clear hb hbox hg; have hnb11 := NB220_221.out; have hnc11 := NB221_220.out; have hcz12_0 : w10.cell? ⟨gb220, 0, none⟩ = some (.string a0_0) := (blk_cell BK220.out 0).trans rfl; have hcz12_1 : w10.cell? ⟨gb220, 1, none⟩ = some (.string a0_1) := (blk_cell BK220.out 1).trans rfl; have hcz12_2 : w10.cell? ⟨gb220, 2, none⟩ = some (.bool true) := (blk_cell BK220.out 2).trans rfl; have hcz12_3 : w10.cell? ⟨gb220, 3, none⟩ = some (.int .u8 a0_3) := (blk_cell BK220.out 3).trans rfl; have hfz12_0 := blk_frozen BK220.out 0; have hfz12_1 := blk_frozen BK220.out 1; have hfz12_2 := blk_frozen BK220.out 2; have hfz12_3 := blk_frozen BK220.out 3))
            have pi225 : (0 ≤ ((ji3) : Int)) = True := eq_true (of_decide_eq_true (by first | (with_reducible assumption) | assumption))
            have qi225 : ((ji3) < (y222.length : Int)) = True := eq_true (of_decide_eq_true (by first | (with_reducible assumption) | assumption))
            have pi229 : (0 ≤ ((ji6) : Int)) = True := eq_true (of_decide_eq_true (by first | (with_reducible assumption) | assumption))
            have qi229 : ((ji6) < (y226.length : Int)) = True := eq_true (of_decide_eq_true (by first | (with_reducible assumption) | assumption))
            have n0_ := Aside0.mk (blk_drew BK220.out)
            have n1_ := Aside0.mk (blk_drew BK221.out)
            have n2_ := Aside0.mk (below_drew1 HB.out)
            clear BK220
            clear BK221
            clear HB
            have BK220 := n0_
            have BK221 := n1_
            have HB := n2_
            clear n0_ n1_ n2_
            refine start_ (n := 15) (S := fun w' => True) (ds := []) #[false, false, false, false, false, false, false, false, false, false, false, false, false, false, false] (by kernel_rfl) rfl rfl trivial (fun hHeld => ?_); refine with_tabW archivistlaw16_Tag_tag.tab3 archivistlaw16_Tag_tag.bits3 (fun HT_ HW_ => ?_)
            generalize w10.drew = w13 at BK220 BK221 HB hHeld ⊢
            refine pure_ (i := 1) (N := some 9) (v := ?_) (a' := ?_) #[false, true, false, false, false, false, false, false, false, false, false, false, false, false, false] rfl rfl (any_of HT_.out (by kernel_rfl)) (fun _ _ _ h => h) (Or.inl ⟨by rfl, ?_⟩) ?_ ?_
            rotate_left
            · intro w'
              go_simp
              with_reducible rfl
            rotate_left
            · simp only [Act.put, List.setIfInBounds_toArray, List.set_cons_zero, List.set_cons_succ, i64_w, i32_w]
              rfl
            refine pure_ (i := 7) (N := some 15) (v := ?_) (a' := ?_) #[false, true, false, false, false, false, false, true, false, false, false, false, false, false, false] rfl rfl (any_of HT_.out (by kernel_rfl)) (fun _ _ _ h => h) (Or.inl ⟨by rfl, ?_⟩) ?_ ?_
            rotate_left
            · intro w'
              go_simp
              with_reducible rfl
            rotate_left
            · simp only [Act.put, List.setIfInBounds_toArray, List.set_cons_zero, List.set_cons_succ, i64_w, i32_w]
              rfl
            refine inv_at [0, 2, 3, 4, 5, 6, 8, 9, 10, 11, 12, 13, 14] (fun a0_ b a w' => ∃ (v223 : Value) (adz_v223 : Addr) (v227 : Value) (adz_v227 : Addr) (m4_ : Value) (m11_ : Value), a = putSel a0_ b [(0, 8, v223), (2, 10, .int .u8 a0_3), (3, 11, .int .u8 ji3), (4, 12, m4_), (5, 13, .string (rdOf ByteArray.empty y222 (ji3))), (6, 14, v227), (8, 16, .int .u8 a0_3), (9, 17, .int .u8 ((Int.tdiv a0_3 5) % 256)), (10, 18, .int .u8 ji6), (11, 19, m11_), (12, 20, .string (rdOf ByteArray.empty y226 (ji6))), (13, 21, .agg #[.string (rdOf ByteArray.empty y222 (ji3)), .string (rdOf ByteArray.empty y226 (ji6))])] ∧ (w'.heap[gb220]? = some (.cells #[.string a0_0, .string a0_1, .bool true, .int .u8 a0_3] 105 (0, 0))) ∧ (b 14 = false → w'.heap[gb221]? = some (.cells #[.string (⟨#[]⟩ : ByteArray), .string (⟨#[]⟩ : ByteArray)] 103 (0, 0))) ∧ (Below w.heap.size w w') ∧ (b 0 = true → Kd.R Kd.string 9 w' w.heap.size (fun _ => True) v223 y222) ∧ (b 0 = true → ∃ c_, (v223 : Value) = .slice (some adz_v223) y222.length c_) ∧ (b 6 = true → Kd.R Kd.string 9 w' w.heap.size (fun _ => True) v227 y226) ∧ (b 6 = true → ∃ c_, (v227 : Value) = .slice (some adz_v227) y226.length c_) ∧ (b 14 = true → w'.heap[gb221]? = some (.cells #[.string (rdOf ByteArray.empty y222 (ji3)), .string (rdOf ByteArray.empty y226 (ji6))] 103 (0, 0))) ∧ (b 4 = true → (m4_ : Value) = .pointer (some (adz_v223.add ((ji3)).toNat))) ∧ (b 11 = true → (m11_ : Value) = .pointer (some (adz_v227.add ((ji6)).toNat)))) HT_.out HW_.out (by kernel_rfl) (by kernel_rfl) ?_ ?_ ?_
            · exact ⟨.bool false, ⟨0, 0, none⟩, .bool false, ⟨0, 0, none⟩, .bool false, .bool false, by simp only [putSel, Bool.false_eq_true, if_false], BK220.out, fun _ => BK221.out, HB.out, fun h_ => absurd h_ (by decide), fun h_ => absurd h_ (by decide), fun h_ => absurd h_ (by decide), fun h_ => absurd h_ (by decide), fun h_ => absurd h_ (by decide), fun h_ => absurd h_ (by decide), fun h_ => absurd h_ (by decide)⟩
            · skip
              clear BK220 BK221 HB
              refine steps_cons ?_ ?_
              · rintro b a w' ⟨v223, adz_v223, v227, adz_v227, m4_, m11_, ha, Q_BK220, Q_BK221, Q_HB, Q_HO224, Q_HA_HO224, Q_HO228, Q_HA_HO228, Q_BK221_e14, Q_X4_, Q_X11_⟩ hb_ hon hoff
                refine ⟨_, rfl, fun K hK => ?_⟩
                replace ha := Aside0.mk ha
                have BK220 := Aside0.mk Q_BK220
                have BK221 := Aside0.mk (Q_BK221 (hoff 14 (by kernel_rfl)))
                have HB := Aside0.mk Q_HB
                refine Kd.R_lit_step Kd.string _ 9 ?hg (N := 8) ?hd (xs := ([(⟨#[97, 112, 112]⟩ : ByteArray), (⟨#[101, 110, 118]⟩ : ByteArray), (⟨#[108, 118, 108]⟩ : ByteArray), (⟨#[100, 117, 114]⟩ : ByteArray), (⟨#[110]⟩ : ByteArray)] : List ByteArray)) (inner := [.string (⟨#[97, 112, 112]⟩ : ByteArray), .string (⟨#[101, 110, 118]⟩ : ByteArray), .string (⟨#[108, 118, 108]⟩ : ByteArray), .string (⟨#[100, 117, 114]⟩ : ByteArray), .string (⟨#[110]⟩ : ByteArray)]) (ok := fun _ => True) (okp := fun _ => True) ?hr ?hp (fun _ hk => hk) trivial (Below.refl _ _) (Nat.le_refl _) (by simp) ?_; (case hd => rfl); (case hg => rfl); (case hr => first | (go_simp; done) | (go_simp; rfl)); (case hp => exact (Reps.one (show Kd.M Kd.string _ _ _ (⟨#[97, 112, 112]⟩ : ByteArray) [.string (⟨#[97, 112, 112]⟩ : ByteArray)] from rfl) (Reps.one (show Kd.M Kd.string _ _ _ (⟨#[101, 110, 118]⟩ : ByteArray) [.string (⟨#[101, 110, 118]⟩ : ByteArray)] from rfl) (Reps.one (show Kd.M Kd.string _ _ _ (⟨#[108, 118, 108]⟩ : ByteArray) [.string (⟨#[108, 118, 108]⟩ : ByteArray)] from rfl) (Reps.one (show Kd.M Kd.string _ _ _ (⟨#[100, 117, 114]⟩ : ByteArray) [.string (⟨#[100, 117, 114]⟩ : ByteArray)] from rfl) (Reps.one (show Kd.M Kd.string _ _ _ (⟨#[110]⟩ : ByteArray) [.string (⟨#[110]⟩ : ByteArray)] from rfl) (Reps.none _ _)))))))
                intro v223 w14 ho15 hb hg_ hnew_
                clear hg_ hnew_
                (first | rw [← Ny222.out] at ho15 | (simp only [Int.reduceToNat] at ho15; rw [← Ny222.out] at ho15))
                have n0_ := Aside0.mk (Kd.R_lower ho15 (below_size (by repeat (first | (with_reducible first | exact HB.out | apply below_alloc | apply pw_below_drewN | apply below_drew1 | refine below_set ?_ GE220.out | refine below_set ?_ GE221.out) | exact HB.out))))
                have n1_ := Aside0.mk (blk_below (g := gb220) (o := .cells #[.string a0_0, .string a0_1, .bool true, .int .u8 a0_3] 105 (0, 0)) (by (with_reducible repeat (first | refine blk_drewN ?_ _ | refine blk_drew ?_ | refine blk_alloc ?_ _)); exact BK220.out) hb)
                have n2_ := Aside0.mk (blk_below (g := gb221) (o := .cells #[.string (⟨#[]⟩ : ByteArray), .string (⟨#[]⟩ : ByteArray)] 103 (0, 0)) (by (with_reducible repeat (first | refine blk_drewN ?_ _ | refine blk_drew ?_ | refine blk_alloc ?_ _)); exact BK221.out) hb)
                have n3_ := Aside0.mk (below_step (by repeat (first | (with_reducible first | exact HB.out | apply below_alloc | apply pw_below_drewN | apply below_drew1 | refine below_set ?_ GE220.out | refine below_set ?_ GE221.out) | exact HB.out)) hb)
                have z_HO228 := fun (h0_ : b 6 = true) => (show Kd.R Kd.string 9 w14 w.heap.size (fun _ => True) v227 y226 from by first | exact (Kd.R_elder' (by (with_reducible repeat (first | apply Kd.R_alloc | apply Kd.R_drewN | apply Kd.R_drew)); exact (Q_HO228 h0_)) (Kd.R_base ho15) hb) | exact Kd.R_mono (Kd.R_elder' (by (with_reducible repeat (first | apply Kd.R_alloc | apply Kd.R_drewN | apply Kd.R_drew)); exact (Q_HO228 h0_)) (Kd.R_base ho15) hb) (fun _ h_ => by first | trivial | exact h_ | exact h_.1))
                clear BK220
                clear BK221
                clear HB
                have HO224 := n0_
                have BK220 := n1_
                have BK221 := n2_
                have HB := n3_
                clear n0_ n1_ n2_ n3_
                clear hb ho15
                obtain ⟨Ao16, co16, eo16⟩ := Kd.R_slice HO224.out
                subst eo16
                obtain ⟨ado16, fo16, _⟩ := Kd.at_string (Kd.R_reads' HO224.out).2.2 0 (by decide) (by rw [Ny222.out]; simp)
                cases fo16
                refine hK.out _ _ ⟨.slice (some ado16) y222.length co16, ado16, v227, adz_v227, m4_, m11_, (by rw [ha.out]; exact putSel_upk 0 hb_ rfl rfl rfl), (by (with_reducible repeat (first | refine blk_drewN ?_ _ | refine blk_drew ?_ | refine blk_alloc ?_ _)); exact BK220.out), fun _ => (by (with_reducible repeat (first | refine blk_drewN ?_ _ | refine blk_drew ?_ | refine blk_alloc ?_ _)); exact BK221.out), (by repeat (first | (with_reducible first | exact HB.out | apply below_alloc | apply pw_below_drewN | apply below_drew1 | refine below_set ?_ GE220.out | refine below_set ?_ GE221.out) | exact HB.out)), fun _ => (by (with_reducible repeat (first | apply Kd.R_alloc | apply Kd.R_drewN | apply Kd.R_drew)); exact HO224.out), fun _ => ⟨_, rfl⟩, z_HO228, Q_HA_HO228, fun h0_ => absurd ((hoff 14 (by kernel_rfl)).symm.trans h0_) (by decide), fun h0_ => absurd ((hoff 4 (by kernel_rfl)).symm.trans h0_) (by decide), Q_X11_⟩
              refine steps_cons ?_ ?_
              · rintro b a w' ⟨v223, adz_v223, v227, adz_v227, m4_, m11_, ha, Q_BK220, Q_BK221, Q_HB, Q_HO224, Q_HA_HO224, Q_HO228, Q_HA_HO228, Q_BK221_e14, Q_X4_, Q_X11_⟩ hb_ hon hoff
                refine ⟨_, rfl, fun K hK => ?_⟩
                have e9 : a.tmps[9]? = some (.pointer (some ⟨gb220, 3, none⟩)) := by rw [ha]; exact (putSel_off rfl).trans rfl
                replace ha := Aside0.mk ha
                have BK220 := Aside0.mk Q_BK220
                have BK221 := Aside0.mk (Q_BK221 (hoff 14 (by kernel_rfl)))
                have HB := Aside0.mk Q_HB
                have hc0_ : w'.cell? ⟨gb220, 0, none⟩ = some (.string a0_0) := (blk_cell BK220.out 0).trans rfl
                have hc1_ : w'.cell? ⟨gb220, 1, none⟩ = some (.string a0_1) := (blk_cell BK220.out 1).trans rfl
                have hc2_ : w'.cell? ⟨gb220, 2, none⟩ = some (.bool true) := (blk_cell BK220.out 2).trans rfl
                have hc3_ : w'.cell? ⟨gb220, 3, none⟩ = some (.int .u8 a0_3) := (blk_cell BK220.out 3).trans rfl
                refine value_ (w1 := w') (v := .int .u8 a0_3) (by rfl) rfl ?_ ?_
                · go_simp
                  (try simp only [i64_w])
                  try rfl
                refine hK.out _ _ ⟨v223, adz_v223, v227, adz_v227, m4_, m11_, (by rw [ha.out]; exact putSel_upk 1 hb_ rfl rfl rfl), Q_BK220, Q_BK221, Q_HB, Q_HO224, Q_HA_HO224, Q_HO228, Q_HA_HO228, fun h0_ => absurd ((hoff 14 (by kernel_rfl)).symm.trans h0_) (by decide), fun h0_ => absurd ((hoff 4 (by kernel_rfl)).symm.trans h0_) (by decide), Q_X11_⟩
              refine steps_cons ?_ ?_
              · rintro b a w' ⟨v223, adz_v223, v227, adz_v227, m4_, m11_, ha, Q_BK220, Q_BK221, Q_HB, Q_HO224, Q_HA_HO224, Q_HO228, Q_HA_HO228, Q_BK221_e14, Q_X4_, Q_X11_⟩ hb_ hon hoff
                refine ⟨_, rfl, fun K hK => ?_⟩
                have e10 : a.tmps[10]? = some (.int .u8 a0_3) := by rw [ha]; exact putSel_on (e := (2, 10, .int .u8 a0_3)) 1 rfl rfl (hon 2 (by kernel_rfl)) rfl
                replace ha := Aside0.mk ha
                have BK220 := Aside0.mk Q_BK220
                have BK221 := Aside0.mk (Q_BK221 (hoff 14 (by kernel_rfl)))
                have HB := Aside0.mk Q_HB
                refine value_ (w1 := w') (v := .int .u8 ji3) (by rfl) rfl ?_ ?_
                · go_simp
                  (try simp only [i64_w])
                  try rfl
                refine hK.out _ _ ⟨v223, adz_v223, v227, adz_v227, m4_, m11_, (by rw [ha.out]; exact putSel_upk 2 hb_ rfl rfl rfl), Q_BK220, Q_BK221, Q_HB, Q_HO224, Q_HA_HO224, Q_HO228, Q_HA_HO228, fun h0_ => absurd ((hoff 14 (by kernel_rfl)).symm.trans h0_) (by decide), fun h0_ => absurd ((hoff 4 (by kernel_rfl)).symm.trans h0_) (by decide), Q_X11_⟩
              refine steps_cons ?_ ?_
              · rintro b a w' ⟨v223, adz_v223, v227, adz_v227, m4_, m11_, ha, Q_BK220, Q_BK221, Q_HB, Q_HO224, Q_HA_HO224, Q_HO228, Q_HA_HO228, Q_BK221_e14, Q_X4_, Q_X11_⟩ hb_ hon hoff
                refine ⟨_, rfl, fun K hK => ?_⟩
                have e8 : a.tmps[8]? = some (v223) := by rw [ha]; exact putSel_on (e := (0, 8, v223)) 0 rfl rfl (hon 0 (by kernel_rfl)) rfl
                have e11 : a.tmps[11]? = some (.int .u8 ji3) := by rw [ha]; exact putSel_on (e := (3, 11, .int .u8 ji3)) 2 rfl rfl (hon 3 (by kernel_rfl)) rfl
                replace ha := Aside0.mk ha
                have BK220 := Aside0.mk Q_BK220
                have BK221 := Aside0.mk (Q_BK221 (hoff 14 (by kernel_rfl)))
                have HB := Aside0.mk Q_HB
                have HO224 := Aside0.mk (Q_HO224 (hon 0 (by kernel_rfl)))
                have HA_HO224 := Aside0.mk (Q_HA_HO224 (hon 0 (by kernel_rfl)))
                obtain ⟨c_, hv_⟩ := HA_HO224.out
                rw [hv_] at e8
                refine value_ (w1 := w') (v := .pointer (some (adz_v223.add ((ji3)).toNat))) (by rfl) rfl ?_ ?_
                · go_simp
                  (try simp only [i64_w])
                  try rfl
                refine hK.out _ _ ⟨v223, adz_v223, v227, adz_v227, (.pointer (some (adz_v223.add ((ji3)).toNat))), m11_, (by rw [ha.out]; exact putSel_upk 3 hb_ rfl rfl rfl), Q_BK220, Q_BK221, Q_HB, Q_HO224, Q_HA_HO224, Q_HO228, Q_HA_HO228, fun h0_ => absurd ((hoff 14 (by kernel_rfl)).symm.trans h0_) (by decide), fun _ => rfl, Q_X11_⟩
              refine steps_cons ?_ ?_
              · rintro b a w' ⟨v223, adz_v223, v227, adz_v227, m4_, m11_, ha, Q_BK220, Q_BK221, Q_HB, Q_HO224, Q_HA_HO224, Q_HO228, Q_HA_HO228, Q_BK221_e14, Q_X4_, Q_X11_⟩ hb_ hon hoff
                refine ⟨_, rfl, fun K hK => ?_⟩
                have e12 : a.tmps[12]? = some (m4_) := by rw [ha]; exact putSel_on (e := (4, 12, m4_)) 3 rfl rfl (hon 4 (by kernel_rfl)) rfl
                rw [Q_X4_ (hon 4 (by kernel_rfl))] at e12
                replace ha := Aside0.mk ha
                have BK220 := Aside0.mk Q_BK220
                have BK221 := Aside0.mk (Q_BK221 (hoff 14 (by kernel_rfl)))
                have HB := Aside0.mk Q_HB
                have HO224 := Aside0.mk (Q_HO224 (hon 0 (by kernel_rfl)))
                have HA_HO224 := Aside0.mk (Q_HA_HO224 (hon 0 (by kernel_rfl)))
                obtain ⟨c_, hv_⟩ := HA_HO224.out
                have hF_ := HO224.out
                rw [hv_] at hF_
                obtain ⟨ad_, ea_, hx_⟩ := Kd.at_string (Kd.R_reads' hF_).2.2 (ji3) (of_eq_true pi225) (of_eq_true qi225)
                cases ea_
                refine value_ (w1 := w') (v := .string (rdOf ByteArray.empty y222 (ji3))) (by rfl) rfl ?_ ?_
                · go_simp
                  (try simp only [i64_w])
                  try rfl
                refine hK.out _ _ ⟨v223, adz_v223, v227, adz_v227, m4_, m11_, (by rw [ha.out]; exact putSel_upk 4 hb_ rfl rfl rfl), Q_BK220, Q_BK221, Q_HB, Q_HO224, Q_HA_HO224, Q_HO228, Q_HA_HO228, fun h0_ => absurd ((hoff 14 (by kernel_rfl)).symm.trans h0_) (by decide), Q_X4_, Q_X11_⟩
              refine steps_cons ?_ ?_
              · rintro b a w' ⟨v223, adz_v223, v227, adz_v227, m4_, m11_, ha, Q_BK220, Q_BK221, Q_HB, Q_HO224, Q_HA_HO224, Q_HO228, Q_HA_HO228, Q_BK221_e14, Q_X4_, Q_X11_⟩ hb_ hon hoff
                refine ⟨_, rfl, fun K hK => ?_⟩
                replace ha := Aside0.mk ha
                have BK220 := Aside0.mk Q_BK220
                have BK221 := Aside0.mk (Q_BK221 (hoff 14 (by kernel_rfl)))
                have HB := Aside0.mk Q_HB
                refine Kd.R_lit_step Kd.string _ 9 ?hg (N := 14) ?hd (xs := ([(⟨#[97]⟩ : ByteArray), (⟨#[98]⟩ : ByteArray), (⟨#[120, 49]⟩ : ByteArray), (⟨#[53, 109]⟩ : ByteArray), (⟨#[55]⟩ : ByteArray), (⟨#[]⟩ : ByteArray), (⟨#[50, 75, 66]⟩ : ByteArray), (⟨#[97, 98]⟩ : ByteArray)] : List ByteArray)) (inner := [.string (⟨#[97]⟩ : ByteArray), .string (⟨#[98]⟩ : ByteArray), .string (⟨#[120, 49]⟩ : ByteArray), .string (⟨#[53, 109]⟩ : ByteArray), .string (⟨#[55]⟩ : ByteArray), .string (⟨#[]⟩ : ByteArray), .string (⟨#[50, 75, 66]⟩ : ByteArray), .string (⟨#[97, 98]⟩ : ByteArray)]) (ok := fun _ => True) (okp := fun _ => True) ?hr ?hp (fun _ hk => hk) trivial (Below.refl _ _) (Nat.le_refl _) (by simp) ?_; (case hd => rfl); (case hg => rfl); (case hr => first | (go_simp; done) | (go_simp; rfl)); (case hp => exact (Reps.one (show Kd.M Kd.string _ _ _ (⟨#[97]⟩ : ByteArray) [.string (⟨#[97]⟩ : ByteArray)] from rfl) (Reps.one (show Kd.M Kd.string _ _ _ (⟨#[98]⟩ : ByteArray) [.string (⟨#[98]⟩ : ByteArray)] from rfl) (Reps.one (show Kd.M Kd.string _ _ _ (⟨#[120, 49]⟩ : ByteArray) [.string (⟨#[120, 49]⟩ : ByteArray)] from rfl) (Reps.one (show Kd.M Kd.string _ _ _ (⟨#[53, 109]⟩ : ByteArray) [.string (⟨#[53, 109]⟩ : ByteArray)] from rfl) (Reps.one (show Kd.M Kd.string _ _ _ (⟨#[55]⟩ : ByteArray) [.string (⟨#[55]⟩ : ByteArray)] from rfl) (Reps.one (show Kd.M Kd.string _ _ _ (⟨#[]⟩ : ByteArray) [.string (⟨#[]⟩ : ByteArray)] from rfl) (Reps.one (show Kd.M Kd.string _ _ _ (⟨#[50, 75, 66]⟩ : ByteArray) [.string (⟨#[50, 75, 66]⟩ : ByteArray)] from rfl) (Reps.one (show Kd.M Kd.string _ _ _ (⟨#[97, 98]⟩ : ByteArray) [.string (⟨#[97, 98]⟩ : ByteArray)] from rfl) (Reps.none _ _))))))))))
                intro v227 w14 ho15 hb hg_ hnew_
                clear hg_ hnew_
                (first | rw [← Ny226.out] at ho15 | (simp only [Int.reduceToNat] at ho15; rw [← Ny226.out] at ho15))
                have n0_ := Aside0.mk (Kd.R_lower ho15 (below_size (by repeat (first | (with_reducible first | exact HB.out | apply below_alloc | apply pw_below_drewN | apply below_drew1 | refine below_set ?_ GE220.out | refine below_set ?_ GE221.out) | exact HB.out))))
                have n1_ := Aside0.mk (blk_below (g := gb220) (o := .cells #[.string a0_0, .string a0_1, .bool true, .int .u8 a0_3] 105 (0, 0)) (by (with_reducible repeat (first | refine blk_drewN ?_ _ | refine blk_drew ?_ | refine blk_alloc ?_ _)); exact BK220.out) hb)
                have n2_ := Aside0.mk (blk_below (g := gb221) (o := .cells #[.string (⟨#[]⟩ : ByteArray), .string (⟨#[]⟩ : ByteArray)] 103 (0, 0)) (by (with_reducible repeat (first | refine blk_drewN ?_ _ | refine blk_drew ?_ | refine blk_alloc ?_ _)); exact BK221.out) hb)
                have n3_ := Aside0.mk (below_step (by repeat (first | (with_reducible first | exact HB.out | apply below_alloc | apply pw_below_drewN | apply below_drew1 | refine below_set ?_ GE220.out | refine below_set ?_ GE221.out) | exact HB.out)) hb)
                have z_HO224 := fun (h0_ : b 0 = true) => (show Kd.R Kd.string 9 w14 w.heap.size (fun _ => True) v223 y222 from by first | exact (Kd.R_elder' (by (with_reducible repeat (first | apply Kd.R_alloc | apply Kd.R_drewN | apply Kd.R_drew)); exact (Q_HO224 h0_)) (Kd.R_base ho15) hb) | exact Kd.R_mono (Kd.R_elder' (by (with_reducible repeat (first | apply Kd.R_alloc | apply Kd.R_drewN | apply Kd.R_drew)); exact (Q_HO224 h0_)) (Kd.R_base ho15) hb) (fun _ h_ => by first | trivial | exact h_ | exact h_.1))
                clear BK220
                clear BK221
                clear HB
                have HO228 := n0_
                have BK220 := n1_
                have BK221 := n2_
                have HB := n3_
                clear n0_ n1_ n2_ n3_
                clear hb ho15
                obtain ⟨Ao16, co16, eo16⟩ := Kd.R_slice HO228.out
                subst eo16
                obtain ⟨ado16, fo16, _⟩ := Kd.at_string (Kd.R_reads' HO228.out).2.2 0 (by decide) (by rw [Ny226.out]; simp)
                cases fo16
                refine hK.out _ _ ⟨v223, adz_v223, .slice (some ado16) y226.length co16, ado16, m4_, m11_, (by rw [ha.out]; exact putSel_upk 5 hb_ rfl rfl rfl), (by (with_reducible repeat (first | refine blk_drewN ?_ _ | refine blk_drew ?_ | refine blk_alloc ?_ _)); exact BK220.out), fun _ => (by (with_reducible repeat (first | refine blk_drewN ?_ _ | refine blk_drew ?_ | refine blk_alloc ?_ _)); exact BK221.out), (by repeat (first | (with_reducible first | exact HB.out | apply below_alloc | apply pw_below_drewN | apply below_drew1 | refine below_set ?_ GE220.out | refine below_set ?_ GE221.out) | exact HB.out)), z_HO224, Q_HA_HO224, fun _ => (by (with_reducible repeat (first | apply Kd.R_alloc | apply Kd.R_drewN | apply Kd.R_drew)); exact HO228.out), fun _ => ⟨_, rfl⟩, fun h0_ => absurd ((hoff 14 (by kernel_rfl)).symm.trans h0_) (by decide), Q_X4_, fun h0_ => absurd ((hoff 11 (by kernel_rfl)).symm.trans h0_) (by decide)⟩
              refine steps_cons ?_ ?_
              · rintro b a w' ⟨v223, adz_v223, v227, adz_v227, m4_, m11_, ha, Q_BK220, Q_BK221, Q_HB, Q_HO224, Q_HA_HO224, Q_HO228, Q_HA_HO228, Q_BK221_e14, Q_X4_, Q_X11_⟩ hb_ hon hoff
                refine ⟨_, rfl, fun K hK => ?_⟩
                have e15 : a.tmps[15]? = some (.pointer (some ⟨gb220, 3, none⟩)) := by rw [ha]; exact (putSel_off rfl).trans rfl
                replace ha := Aside0.mk ha
                have BK220 := Aside0.mk Q_BK220
                have BK221 := Aside0.mk (Q_BK221 (hoff 14 (by kernel_rfl)))
                have HB := Aside0.mk Q_HB
                have hc0_ : w'.cell? ⟨gb220, 0, none⟩ = some (.string a0_0) := (blk_cell BK220.out 0).trans rfl
                have hc1_ : w'.cell? ⟨gb220, 1, none⟩ = some (.string a0_1) := (blk_cell BK220.out 1).trans rfl
                have hc2_ : w'.cell? ⟨gb220, 2, none⟩ = some (.bool true) := (blk_cell BK220.out 2).trans rfl
                have hc3_ : w'.cell? ⟨gb220, 3, none⟩ = some (.int .u8 a0_3) := (blk_cell BK220.out 3).trans rfl
                refine value_ (w1 := w') (v := .int .u8 a0_3) (by rfl) rfl ?_ ?_
                · go_simp
                  (try simp only [i64_w])
                  try rfl
                refine hK.out _ _ ⟨v223, adz_v223, v227, adz_v227, m4_, m11_, (by rw [ha.out]; exact putSel_upk 6 hb_ rfl rfl rfl), Q_BK220, Q_BK221, Q_HB, Q_HO224, Q_HA_HO224, Q_HO228, Q_HA_HO228, fun h0_ => absurd ((hoff 14 (by kernel_rfl)).symm.trans h0_) (by decide), Q_X4_, fun h0_ => absurd ((hoff 11 (by kernel_rfl)).symm.trans h0_) (by decide)⟩
              refine steps_cons ?_ ?_
              · rintro b a w' ⟨v223, adz_v223, v227, adz_v227, m4_, m11_, ha, Q_BK220, Q_BK221, Q_HB, Q_HO224, Q_HA_HO224, Q_HO228, Q_HA_HO228, Q_BK221_e14, Q_X4_, Q_X11_⟩ hb_ hon hoff
                refine ⟨_, rfl, fun K hK => ?_⟩
                have e16 : a.tmps[16]? = some (.int .u8 a0_3) := by rw [ha]; exact putSel_on (e := (8, 16, .int .u8 a0_3)) 6 rfl rfl (hon 8 (by kernel_rfl)) rfl
                replace ha := Aside0.mk ha
                have BK220 := Aside0.mk Q_BK220
                have BK221 := Aside0.mk (Q_BK221 (hoff 14 (by kernel_rfl)))
                have HB := Aside0.mk Q_HB
                refine value_ (w1 := w') (v := .int .u8 ((Int.tdiv a0_3 5) % 256)) (by rfl) rfl ?_ ?_
                · go_simp
                  (try simp only [i64_w])
                  try rfl
                refine hK.out _ _ ⟨v223, adz_v223, v227, adz_v227, m4_, m11_, (by rw [ha.out]; exact putSel_upk 7 hb_ rfl rfl rfl), Q_BK220, Q_BK221, Q_HB, Q_HO224, Q_HA_HO224, Q_HO228, Q_HA_HO228, fun h0_ => absurd ((hoff 14 (by kernel_rfl)).symm.trans h0_) (by decide), Q_X4_, fun h0_ => absurd ((hoff 11 (by kernel_rfl)).symm.trans h0_) (by decide)⟩
              refine steps_cons ?_ ?_
              · rintro b a w' ⟨v223, adz_v223, v227, adz_v227, m4_, m11_, ha, Q_BK220, Q_BK221, Q_HB, Q_HO224, Q_HA_HO224, Q_HO228, Q_HA_HO228, Q_BK221_e14, Q_X4_, Q_X11_⟩ hb_ hon hoff
                refine ⟨_, rfl, fun K hK => ?_⟩
                have e17 : a.tmps[17]? = some (.int .u8 ((Int.tdiv a0_3 5) % 256)) := by rw [ha]; exact putSel_on (e := (9, 17, .int .u8 ((Int.tdiv a0_3 5) % 256))) 7 rfl rfl (hon 9 (by kernel_rfl)) rfl
                replace ha := Aside0.mk ha
                have BK220 := Aside0.mk Q_BK220
                have BK221 := Aside0.mk (Q_BK221 (hoff 14 (by kernel_rfl)))
                have HB := Aside0.mk Q_HB
                refine value_ (w1 := w') (v := .int .u8 ji6) (by rfl) rfl ?_ ?_
                · go_simp
                  (try simp only [i64_w])
                  try rfl
                refine hK.out _ _ ⟨v223, adz_v223, v227, adz_v227, m4_, m11_, (by rw [ha.out]; exact putSel_upk 8 hb_ rfl rfl rfl), Q_BK220, Q_BK221, Q_HB, Q_HO224, Q_HA_HO224, Q_HO228, Q_HA_HO228, fun h0_ => absurd ((hoff 14 (by kernel_rfl)).symm.trans h0_) (by decide), Q_X4_, fun h0_ => absurd ((hoff 11 (by kernel_rfl)).symm.trans h0_) (by decide)⟩
              refine steps_cons ?_ ?_
              · rintro b a w' ⟨v223, adz_v223, v227, adz_v227, m4_, m11_, ha, Q_BK220, Q_BK221, Q_HB, Q_HO224, Q_HA_HO224, Q_HO228, Q_HA_HO228, Q_BK221_e14, Q_X4_, Q_X11_⟩ hb_ hon hoff
                refine ⟨_, rfl, fun K hK => ?_⟩
                have e14 : a.tmps[14]? = some (v227) := by rw [ha]; exact putSel_on (e := (6, 14, v227)) 5 rfl rfl (hon 6 (by kernel_rfl)) rfl
                have e18 : a.tmps[18]? = some (.int .u8 ji6) := by rw [ha]; exact putSel_on (e := (10, 18, .int .u8 ji6)) 8 rfl rfl (hon 10 (by kernel_rfl)) rfl
                replace ha := Aside0.mk ha
                have BK220 := Aside0.mk Q_BK220
                have BK221 := Aside0.mk (Q_BK221 (hoff 14 (by kernel_rfl)))
                have HB := Aside0.mk Q_HB
                have HO228 := Aside0.mk (Q_HO228 (hon 6 (by kernel_rfl)))
                have HA_HO228 := Aside0.mk (Q_HA_HO228 (hon 6 (by kernel_rfl)))
                obtain ⟨c_, hv_⟩ := HA_HO228.out
                rw [hv_] at e14
                refine value_ (w1 := w') (v := .pointer (some (adz_v227.add ((ji6)).toNat))) (by rfl) rfl ?_ ?_
                · go_simp
                  (try simp only [i64_w])
                  try rfl
                refine hK.out _ _ ⟨v223, adz_v223, v227, adz_v227, m4_, (.pointer (some (adz_v227.add ((ji6)).toNat))), (by rw [ha.out]; exact putSel_upk 9 hb_ rfl rfl rfl), Q_BK220, Q_BK221, Q_HB, Q_HO224, Q_HA_HO224, Q_HO228, Q_HA_HO228, fun h0_ => absurd ((hoff 14 (by kernel_rfl)).symm.trans h0_) (by decide), Q_X4_, fun _ => rfl⟩
              refine steps_cons ?_ ?_
              · rintro b a w' ⟨v223, adz_v223, v227, adz_v227, m4_, m11_, ha, Q_BK220, Q_BK221, Q_HB, Q_HO224, Q_HA_HO224, Q_HO228, Q_HA_HO228, Q_BK221_e14, Q_X4_, Q_X11_⟩ hb_ hon hoff
                refine ⟨_, rfl, fun K hK => ?_⟩
                have e19 : a.tmps[19]? = some (m11_) := by rw [ha]; exact putSel_on (e := (11, 19, m11_)) 9 rfl rfl (hon 11 (by kernel_rfl)) rfl
                rw [Q_X11_ (hon 11 (by kernel_rfl))] at e19
                replace ha := Aside0.mk ha
                have BK220 := Aside0.mk Q_BK220
                have BK221 := Aside0.mk (Q_BK221 (hoff 14 (by kernel_rfl)))
                have HB := Aside0.mk Q_HB
                have HO228 := Aside0.mk (Q_HO228 (hon 6 (by kernel_rfl)))
                have HA_HO228 := Aside0.mk (Q_HA_HO228 (hon 6 (by kernel_rfl)))
                obtain ⟨c_, hv_⟩ := HA_HO228.out
                have hF_ := HO228.out
                rw [hv_] at hF_
                obtain ⟨ad_, ea_, hx_⟩ := Kd.at_string (Kd.R_reads' hF_).2.2 (ji6) (of_eq_true pi229) (of_eq_true qi229)
                cases ea_
                refine value_ (w1 := w') (v := .string (rdOf ByteArray.empty y226 (ji6))) (by rfl) rfl ?_ ?_
                · go_simp
                  (try simp only [i64_w])
                  try rfl
                refine hK.out _ _ ⟨v223, adz_v223, v227, adz_v227, m4_, m11_, (by rw [ha.out]; exact putSel_upk 10 hb_ rfl rfl rfl), Q_BK220, Q_BK221, Q_HB, Q_HO224, Q_HA_HO224, Q_HO228, Q_HA_HO228, fun h0_ => absurd ((hoff 14 (by kernel_rfl)).symm.trans h0_) (by decide), Q_X4_, Q_X11_⟩
              refine steps_cons ?_ ?_
              · rintro b a w' ⟨v223, adz_v223, v227, adz_v227, m4_, m11_, ha, Q_BK220, Q_BK221, Q_HB, Q_HO224, Q_HA_HO224, Q_HO228, Q_HA_HO228, Q_BK221_e14, Q_X4_, Q_X11_⟩ hb_ hon hoff
                refine ⟨_, rfl, fun K hK => ?_⟩
                have e13 : a.tmps[13]? = some (.string (rdOf ByteArray.empty y222 (ji3))) := by rw [ha]; exact putSel_on (e := (5, 13, .string (rdOf ByteArray.empty y222 (ji3)))) 4 rfl rfl (hon 5 (by kernel_rfl)) rfl
                have e20 : a.tmps[20]? = some (.string (rdOf ByteArray.empty y226 (ji6))) := by rw [ha]; exact putSel_on (e := (12, 20, .string (rdOf ByteArray.empty y226 (ji6)))) 10 rfl rfl (hon 12 (by kernel_rfl)) rfl
                replace ha := Aside0.mk ha
                have BK220 := Aside0.mk Q_BK220
                have BK221 := Aside0.mk (Q_BK221 (hoff 14 (by kernel_rfl)))
                have HB := Aside0.mk Q_HB
                have HO224 := Aside0.mk (Q_HO224 (hon 0 (by kernel_rfl)))
                have HA_HO224 := Aside0.mk (Q_HA_HO224 (hon 0 (by kernel_rfl)))
                have HO228 := Aside0.mk (Q_HO228 (hon 6 (by kernel_rfl)))
                have HA_HO228 := Aside0.mk (Q_HA_HO228 (hon 6 (by kernel_rfl)))
                refine value_ (w1 := w') (v := .agg #[.string (rdOf ByteArray.empty y222 (ji3)), .string (rdOf ByteArray.empty y226 (ji6))]) (by rfl) rfl ?_ ?_
                · go_simp
                  (try simp only [i64_w])
                  try rfl
                refine hK.out _ _ ⟨v223, adz_v223, v227, adz_v227, m4_, m11_, (by rw [ha.out]; exact putSel_upk 11 hb_ rfl rfl rfl), Q_BK220, Q_BK221, Q_HB, Q_HO224, Q_HA_HO224, Q_HO228, Q_HA_HO228, fun h0_ => absurd ((hoff 14 (by kernel_rfl)).symm.trans h0_) (by decide), Q_X4_, Q_X11_⟩
              refine steps_cons ?_ ?_
              · rintro b a w' ⟨v223, adz_v223, v227, adz_v227, m4_, m11_, ha, Q_BK220, Q_BK221, Q_HB, Q_HO224, Q_HA_HO224, Q_HO228, Q_HA_HO228, Q_BK221_e14, Q_X4_, Q_X11_⟩ hb_ hon hoff
                refine ⟨_, rfl, fun K hK => ?_⟩
                have e2 : a.tmps[2]? = some (.pointer (some ⟨gb221, 0, none⟩)) := by rw [ha]; exact (putSel_off rfl).trans rfl
                have e21 : a.tmps[21]? = some (.agg #[.string (rdOf ByteArray.empty y222 (ji3)), .string (rdOf ByteArray.empty y226 (ji6))]) := by rw [ha]; exact putSel_on (e := (13, 21, .agg #[.string (rdOf ByteArray.empty y222 (ji3)), .string (rdOf ByteArray.empty y226 (ji6))])) 11 rfl rfl (hon 13 (by kernel_rfl)) rfl
                replace ha := Aside0.mk ha
                have BK220 := Aside0.mk Q_BK220
                have BK221 := Aside0.mk (Q_BK221 hb_)
                have HB := Aside0.mk Q_HB
                have HO224 := Aside0.mk (Q_HO224 (hon 0 (by kernel_rfl)))
                have HA_HO224 := Aside0.mk (Q_HA_HO224 (hon 0 (by kernel_rfl)))
                have HO228 := Aside0.mk (Q_HO228 (hon 6 (by kernel_rfl)))
                have HA_HO228 := Aside0.mk (Q_HA_HO228 (hon 6 (by kernel_rfl)))
                obtain ⟨co21, eo21⟩ := HA_HO224.out
                clear HA_HO224
                subst eo21
                obtain ⟨co22, eo22⟩ := HA_HO228.out
                clear HA_HO228
                subst eo22
                have hs23 : w'.cell? ⟨gb221, 0, none⟩ = some (.string (⟨#[]⟩ : ByteArray)) := (blk_cell BK221.out 0).trans rfl
                have hfs23 := blk_frozen BK221.out 0
                have hns23_0 := NB220_221.out
                have hms23_0 := NB221_220.out
                have hs24 : w'.cell? ⟨gb221, 1, none⟩ = some (.string (⟨#[]⟩ : ByteArray)) := (blk_cell BK221.out 1).trans rfl
                have hfs24 := blk_frozen BK221.out 1
                have hns24_0 := NB220_221.out
                have hms24_0 := NB221_220.out
                refine skip_ (w1 := ?_) (by rfl) rfl ?_ ?_
                rotate_left
                · go_simp
                  rfl
                refine hK.out _ _ ⟨.slice (some adz_v223) y222.length co21, adz_v223, .slice (some adz_v227) y226.length co22, adz_v227, m4_, m11_, (by rw [ha.out]; exact putSel_none (v := undef) rfl), (by (with_reducible repeat (first | refine blk_drewN ?_ _ | refine blk_drew ?_ | refine blk_alloc ?_ _)); refine blk_far ?_ NB220_221.out _; (with_reducible repeat (first | refine blk_drewN ?_ _ | refine blk_drew ?_ | refine blk_alloc ?_ _)); refine blk_far ?_ NB220_221.out _; (with_reducible repeat (first | refine blk_drewN ?_ _ | refine blk_drew ?_ | refine blk_alloc ?_ _)); exact BK220.out), fun h0_ => absurd ((up_self b 14).symm.trans h0_) (by decide), (by repeat (first | (with_reducible first | exact HB.out | apply below_alloc | apply pw_below_drewN | apply below_drew1 | refine below_set ?_ GE220.out | refine below_set ?_ GE221.out) | exact HB.out)), fun _ => (by (with_reducible repeat (first | apply Kd.R_alloc | apply Kd.R_drewN | apply Kd.R_drew)); exact Kd.R_mono (Kd.R_far (p := ⟨gb221, 1, none⟩) (Kd.R_far (p := ⟨gb221, 0, none⟩) (Kd.R_types HO224.out BK221.out (by decide)) (fun _ hk => hk.2) (.string (rdOf ByteArray.empty y222 (ji3)))) (fun _ hk => hk.2) (.string (rdOf ByteArray.empty y226 (ji6)))) (fun _ hk => hk.1)), fun _ => ⟨_, rfl⟩, fun _ => (by (with_reducible repeat (first | apply Kd.R_alloc | apply Kd.R_drewN | apply Kd.R_drew)); exact Kd.R_mono (Kd.R_far (p := ⟨gb221, 1, none⟩) (Kd.R_far (p := ⟨gb221, 0, none⟩) (Kd.R_types HO228.out BK221.out (by decide)) (fun _ hk => hk.2) (.string (rdOf ByteArray.empty y222 (ji3)))) (fun _ hk => hk.2) (.string (rdOf ByteArray.empty y226 (ji6)))) (fun _ hk => hk.1)), fun _ => ⟨_, rfl⟩, fun _ => (by (with_reducible repeat (first | refine blk_drewN ?_ _ | refine blk_drew ?_ | refine blk_alloc ?_ _)); refine blk_put (cs := #[.string (rdOf ByteArray.empty y222 (ji3)), .string (⟨#[]⟩ : ByteArray)]) ?_ 1 _ rfl; (with_reducible repeat (first | refine blk_drewN ?_ _ | refine blk_drew ?_ | refine blk_alloc ?_ _)); refine blk_put (cs := #[.string (⟨#[]⟩ : ByteArray), .string (⟨#[]⟩ : ByteArray)]) ?_ 0 _ rfl; (with_reducible repeat (first | refine blk_drewN ?_ _ | refine blk_drew ?_ | refine blk_alloc ?_ _)); exact BK221.out), Q_X4_, Q_X11_⟩
              exact steps_nil
            rintro b a w22 hall ⟨v223, adz_v223, v227, adz_v227, m4_, m11_, ha, Q_BK220, Q_BK221, Q_HB, Q_HO224, Q_HA_HO224, Q_HO228, Q_HA_HO228, Q_BK221_e14, Q_X4_, Q_X11_⟩
            clear BK220 BK221 HB
            have hb0_ := hall 0 (by kernel_rfl)
            have hb2_ := hall 2 (by kernel_rfl)
            have hb3_ := hall 3 (by kernel_rfl)
            have hb4_ := hall 4 (by kernel_rfl)
            have hb5_ := hall 5 (by kernel_rfl)
            have hb6_ := hall 6 (by kernel_rfl)
            have hb8_ := hall 8 (by kernel_rfl)
            have hb9_ := hall 9 (by kernel_rfl)
            have hb10_ := hall 10 (by kernel_rfl)
            have hb11_ := hall 11 (by kernel_rfl)
            have hb12_ := hall 12 (by kernel_rfl)
            have hb13_ := hall 13 (by kernel_rfl)
            have hb14_ := hall 14 (by kernel_rfl)
            subst ha
            obtain rfl := Q_X4_ hb4_
            obtain rfl := Q_X11_ hb11_
            simp only [putSel, hb0_, hb2_, hb3_, hb4_, hb5_, hb6_, hb8_, hb9_, hb10_, hb11_, hb12_, hb13_, hb14_, if_true, Act.put, List.setIfInBounds_toArray, List.set_cons_zero, List.set_cons_succ]
            have BK220 := Aside0.mk Q_BK220
            clear Q_BK220
            clear Q_BK221
            have HB := Aside0.mk Q_HB
            clear Q_HB
            have HO224 := Aside0.mk (Q_HO224 hb0_)
            clear Q_HO224
            have HA_HO224 := Aside0.mk (Q_HA_HO224 hb0_)
            clear Q_HA_HO224
            have HO228 := Aside0.mk (Q_HO228 hb6_)
            clear Q_HO228
            have HA_HO228 := Aside0.mk (Q_HA_HO228 hb6_)
            clear Q_HA_HO228
            have BK221 := Aside0.mk (Q_BK221_e14 hb14_)
            clear Q_BK221_e14
            clear hall hb0_ hb2_ hb3_ hb4_ hb5_ hb6_ hb8_ hb9_ hb10_ hb11_ hb12_ hb13_ hb14_
            obtain ⟨co23, eo23⟩ := HA_HO224.out
            clear HA_HO224
            subst eo23
            obtain ⟨co24, eo24⟩ := HA_HO228.out
            clear HA_HO228
            subst eo24
            try go_wp2
            refine bodyPost_ret (results_cell_row rfl _ _ gb221 103 #[.string (rdOf ByteArray.empty y222 (ji3)), .string (rdOf ByteArray.empty y226 (ji6))] (0, 0) _ rfl (by (with_reducible repeat (first | refine blk_drewN ?_ _ | refine blk_drew ?_ | refine blk_alloc ?_ _)); exact BK221.out) Try.underlying103 rfl (by kernel_rfl)) rfl ?_
            exact ⟨by first | rfl | (simp [errW_none, errW_some] <;> rfl) | (simp only [← hji3, ← hji6]; first | rfl | (simp [errW_none, errW_some] <;> rfl)) | (simp [*, errW_none, errW_some] <;> rfl), by repeat (first | (with_reducible first | exact HB.out | apply below_alloc | apply pw_below_drewN | apply below_drew1 | refine below_set ?_ GE220.out | refine below_set ?_ GE221.out) | exact HB.out)⟩
          · rw [if_neg c8] at H
            exact absurd H (by simp)
        · rw [if_neg c7] at H
          exact absurd H (by simp)
      · rw [if_neg c5] at H
        exact absurd H (by simp)
    · rw [if_neg c4] at H
      exact absurd H (by simp)
  · replace c2 := Bool.eq_false_iff.mpr c2
    subst c2
    have H1 : (some (a0_0, a0_1)) = some (r1, r2) := by rw [if_neg (show ¬ (false = true) by decide)] at H; exact H
    clear H
    have H := H1
    clear H1
    simp only [Option.some.injEq, Prod.mk.injEq] at H
    obtain ⟨rfl, rfl⟩ := H
    go_enter Try.func47, Try.ntmps47
    go_wp2_with (first | ((with_reducible refine gate_dst (N := 1) rfl ?_); refine box_event ?hg (N := 1) ?hd (cs := #[.string a0_0, .string a0_1, .bool false, .int .u8 a0_3]) (t := 105) ?hr ?_; (case hd => rfl); (case hg => rfl); (case hr => first | (go_simp; done) | (go_simp; rfl)); intro gb220 hg w25 hbox hb; have n0_ := Aside0.mk (below_step (by repeat (first | (with_reducible first | exact HB.out | apply below_alloc | apply pw_below_drewN | apply below_drew1) | exact HB.out)) hb); have n1_ := Aside0.mk (hbox); have n2_ := Aside0.mk ((by rw [hg]; exact (below_size (by repeat (first | (with_reducible first | exact HB.out | apply below_alloc | apply pw_below_drewN | apply below_drew1) | exact HB.out))) : w.heap.size ≤ gb220)); have n3_ := Aside0.mk ((by rw [hg]; exact (below_size (by repeat (first | (with_reducible first | exact HB.out | apply below_alloc | apply pw_below_drewN | apply below_drew1) | exact HB.out))) : w.heap.size ≤ gb220)); clear HB; have HB := n0_; have BK220 := n1_; have GW220 := n2_; have GE220 := n3_; clear n0_ n1_ n2_ n3_; clear hb hbox hg) | ((with_reducible refine gate_dst (N := 2) rfl ?_); refine box_event ?hg (N := 2) ?hd (cs := #[.string (⟨#[]⟩ : ByteArray), .string (⟨#[]⟩ : ByteArray)]) (t := 103) ?hr ?_; (case hd => rfl); (case hg => rfl); (case hr => first | (go_simp; done) | (go_simp; rfl)); intro gb221 hg w26 hbox hb; have n0_ := Aside0.mk (blk_below (g := gb220) (o := .cells #[.string a0_0, .string a0_1, .bool false, .int .u8 a0_3] 105 (0, 0)) (by (with_reducible repeat (first | refine blk_drewN ?_ _ | refine blk_drew ?_ | refine blk_alloc ?_ _)); exact BK220.out) hb); have n1_ := Aside0.mk (below_step (by repeat (first | (with_reducible first | exact HB.out | apply below_alloc | apply pw_below_drewN | apply below_drew1 | refine below_set ?_ GE220.out) | exact HB.out)) hb); have n2_ := Aside0.mk (hbox); have n3_ := Aside0.mk ((by rw [hg]; exact (below_size (by repeat (first | (with_reducible first | exact HB.out | apply below_alloc | apply pw_below_drewN | apply below_drew1 | refine below_set ?_ GE220.out) | exact HB.out))) : w.heap.size ≤ gb221)); have n4_ := Aside0.mk ((by rw [hg]; exact (below_size (by repeat (first | (with_reducible first | exact HB.out | apply below_alloc | apply pw_below_drewN | apply below_drew1 | refine below_set ?_ GE220.out) | exact HB.out))) : w.heap.size ≤ gb221)); have n5_ := Aside0.mk ((by rw [hg]; exact Nat.ne_of_lt (blk_lt (g := gb220) (o := .cells #[.string a0_0, .string a0_1, .bool false, .int .u8 a0_3] 105 (0, 0)) (by (with_reducible repeat (first | refine blk_drewN ?_ _ | refine blk_drew ?_ | refine blk_alloc ?_ _)); exact BK220.out)) : gb220 ≠ gb221)); have n6_ := Aside0.mk ((by rw [hg]; exact Nat.ne_of_gt (blk_lt (g := gb220) (o := .cells #[.string a0_0, .string a0_1, .bool false, .int .u8 a0_3] 105 (0, 0)) (by (with_reducible repeat (first | refine blk_drewN ?_ _ | refine blk_drew ?_ | refine blk_alloc ?_ _)); exact BK220.out)) : gb221 ≠ gb220)); clear BK220; clear HB; have BK220 := n0_; have HB := n1_; have BK221 := n2_; have GW221 := n3_; have GE221 := n4_; have NB220_221 := n5_; have NB221_220 := n6_; clear n0_ n1_ n2_ n3_ n4_ n5_ n6_; clear hb hbox hg; have hnb27 := NB220_221.out; have hnc27 := NB221_220.out; have hcz28_0 : w26.cell? ⟨gb220, 0, none⟩ = some (.string a0_0) := (blk_cell BK220.out 0).trans rfl; have hcz28_1 : w26.cell? ⟨gb220, 1, none⟩ = some (.string a0_1) := (blk_cell BK220.out 1).trans rfl; have hcz28_2 : w26.cell? ⟨gb220, 2, none⟩ = some (.bool false) := (blk_cell BK220.out 2).trans rfl; have hcz28_3 : w26.cell? ⟨gb220, 3, none⟩ = some (.int .u8 a0_3) := (blk_cell BK220.out 3).trans rfl; have hfz28_0 := blk_frozen BK220.out 0; have hfz28_1 := blk_frozen BK220.out 1; have hfz28_2 := blk_frozen BK220.out 2; have hfz28_3 := blk_frozen BK220.out 3; have hcz29_0 : w26.cell? ⟨gb221, 0, none⟩ = some (.string (⟨#[]⟩ : ByteArray)) := (blk_cell BK221.out 0).trans rfl; have hcz29_1 : w26.cell? ⟨gb221, 1, none⟩ = some (.string (⟨#[]⟩ : ByteArray)) := (blk_cell BK221.out 1).trans rfl; have hfz29_0 := blk_frozen BK221.out 0; have hfz29_1 := blk_frozen BK221.out 1))
    refine bodyPost_ret (results_cell_row rfl _ _ gb221 103 #[.string a0_0, .string a0_1] (0, 0) _ rfl (by (with_reducible repeat (first | refine blk_drewN ?_ _ | refine blk_drew ?_ | refine blk_alloc ?_ _)); refine blk_put (cs := #[.string a0_0, .string (⟨#[]⟩ : ByteArray)]) ?_ 1 _ rfl; (with_reducible repeat (first | refine blk_drewN ?_ _ | refine blk_drew ?_ | refine blk_alloc ?_ _)); refine blk_put (cs := #[.string (⟨#[]⟩ : ByteArray), .string (⟨#[]⟩ : ByteArray)]) ?_ 0 _ rfl; (with_reducible repeat (first | refine blk_drewN ?_ _ | refine blk_drew ?_ | refine blk_alloc ?_ _)); exact BK221.out) Try.underlying103 rfl (by kernel_rfl)) rfl ?_
    exact ⟨by first | rfl | (simp [errW_none, errW_some] <;> rfl) | (simp [*, errW_none, errW_some] <;> rfl), by repeat (first | (with_reducible first | exact HB.out | apply below_alloc | apply pw_below_drewN | apply below_drew1 | refine below_set ?_ GE220.out | refine below_set ?_ GE221.out) | exact HB.out)⟩

end Go.Proofs.Ytaehlbbjbeibfaa.X
