-- Laid by xprint.py, a program of this session's, out of the translation.
import Derived.Test.YtaehlbbjbeibfaaX0
import Derived.Test.YtaehlbbjbeibfaaX11
namespace Go.Proofs.Ytaehlbbjbeibfaa.X
open Go.RowKit Go.Proofs.YtaehlbbjbeibfaaW.PrintWords Go.Proofs.YtaehlbbjbeibfaaW.PrintLast Go.Proofs.YtaehlbbjbeibfaaW.PrintMore
attribute [local go_sem] max2_int min2_int max_two min_two max_three min_three max_four min_four x_isSome x_str_gtr x_str_leq x_str_geq   -- for this text's walks alone
set_option linter.unusedVariables false
set_option linter.unusedSimpArgs false

/-! ### archivistlaw16_Item_item: function 16 -/
def archivistlaw16_Item_item.f (k : Nat) (a0_0 : Int) (l0_1 : List (S103)) (a0_2 : ByteArray) (a0_3 : Bool) (a0_4 : Int) (l0_5 : List (S105)) (a0_6 : Int) : Option (Int × (List (S103)) × ByteArray) := if a0_3 = true then ((archivistlaw16_few2.f k l0_5).bind fun t272 => ((some (([(⟨#[97]⟩ : ByteArray), (⟨#[98]⟩ : ByteArray), (⟨#[110, 61, 55]⟩ : ByteArray), (⟨#[108, 118, 108, 61, 98, 32, 110, 61, 51]⟩ : ByteArray), (⟨#[120, 49]⟩ : ByteArray), (⟨#[]⟩ : ByteArray), (⟨#[100, 117, 114, 61, 53, 109]⟩ : ByteArray), (⟨#[101, 114, 114, 111, 114, 58, 32, 97]⟩ : ByteArray)] : List ByteArray) : List ByteArray)).bind fun y275 => (if 0 ≤ (Int.tmod a0_6 8) then (if (Int.tmod a0_6 8) < (y275.length : Int) then (some (wrap64 (Int.tmod a0_4 12), t272, rdOf ByteArray.empty y275 (Int.tmod a0_6 8))) else (none)) else (none)))) else (some (a0_0, l0_1, a0_2))
theorem archivistlaw16_Item_item.mono : ∀ a0 a1 a2 a3 a4 a5 a6 k, LeO (archivistlaw16_Item_item.f k a0 a1 a2 a3 a4 a5 a6) (archivistlaw16_Item_item.f (k + 1) a0 a1 a2 a3 a4 a5 a6) := by
  intro a0 a1 a2 a3 a4 a5 a6 k
  unfold archivistlaw16_Item_item.f
  repeat' first
      | (with_reducible exact archivistlaw16_few2.mono _ _)
      | (with_reducible exact LeO.refl _)
      | (with_reducible exact LeO.none _)
      | (with_reducible refine LeO.ite ?_ ?_)
      | (with_reducible refine LeO.bind ?_ (fun _ => ?_))
      | exact archivistlaw16_few2.mono _ _
      | exact LeO.none _
      | refine LeO.ite ?_ ?_
      | refine LeO.bind ?_ (fun _ => ?_)
def archivistlaw16_Item_item.T3 : Bool × List (List Nat × List Nat) := (true, [([], []), ([0], [0]), ([1], [1]), ([2], [2]), ([], []), ([4], [4]), ([5], [5]), ([], []), ([], []), ([8], [8]), ([9], [9]), ([7, 10], [7, 10]), ([11], [11]), ([3, 6, 12], [3, 6, 12]), ([13, 6, 0, 1, 2, 3, 4, 5, 6, 7, 8, 9, 10, 11, 12, 13], [13])])
def archivistlaw16_Item_item.B3 : List Nat := [0, 1, 3, 7, 0, 16, 48, 0, 0, 256, 768, 1920, 3968, 8191, 16383]
theorem archivistlaw16_Item_item.tab3 : rtab .any (opsOf Try.f16 3) = archivistlaw16_Item_item.T3 := by kernel_rfl
theorem archivistlaw16_Item_item.bits3 : waitsOk archivistlaw16_Item_item.T3.2 archivistlaw16_Item_item.B3 = true := by kernel_rfl
set_option maxHeartbeats 8000000 in
set_option maxRecDepth 100000 in
theorem archivistlaw16_Item_item.calls (k : Nat) (a0_0 : Int) (P0_1_ : Nat → Prop) (A0_1 : Option Addr) (c0_1 : Nat) (l0_1 : List (S103)) (a0_2 : ByteArray) (a0_3 : Bool) (a0_4 : Int) (A0_5 : Option Addr) (c0_5 : Nat) (l0_5 : List (S105)) (a0_6 : Int) (r1 : Int) (r2 : List (S103)) (r3 : ByteArray) (w : World) (hs0_1 : Kd.V k103 103 w w.heap.size (fun k_ => P0_1_ k_) (.slice A0_1 l0_1.length c0_1) l0_1) (hr0_5 : Kd.C k105 w A0_5 l0_5.length l0_5) (hc0_5 : l0_5.length ≤ c0_5) (h : archivistlaw16_Item_item.f k a0_0 l0_1 a0_2 a0_3 a0_4 l0_5 a0_6 = some (r1, r2, r3)) :
    Calls Try.prog 16 #[.agg #[.int .i64 a0_0, .slice A0_1 l0_1.length c0_1, .string a0_2, .bool a0_3, .int .i8 a0_4, .slice A0_5 l0_5.length c0_5, .int .u8 a0_6]] w fun e w' => ∃ v1_ : Value, e = .returned (.agg #[.int .i64 r1, v1_, .string r3]) ∧ Kd.V k103 103 w' w.heap.size (fun k_ => (P0_1_ k_ ∨ w.heap.size ≤ k_)) v1_ r2 ∧ Below w.heap.size w w' := by
  have hu30 := Try.underlying30
  have hu26 := Try.underlying26
  have HO0_1 := Aside0.mk (show Kd.V k103 103 w w.heap.size (fun k_ => (P0_1_ k_ ∨ w.heap.size ≤ k_)) (.slice A0_1 l0_1.length c0_1) l0_1 from Kd.V_mono hs0_1 (fun k_ hk => .inl hk))
  have HR0_5 := Aside0.mk hr0_5
  have HC0_5 := Aside0.mk hc0_5
  clear hr0_5 hc0_5
  have HB := Aside0.mk (Below.refl w.heap.size w)
  have H : (if a0_3 = true then ((archivistlaw16_few2.f k l0_5).bind fun t272 => ((some (([(⟨#[97]⟩ : ByteArray), (⟨#[98]⟩ : ByteArray), (⟨#[110, 61, 55]⟩ : ByteArray), (⟨#[108, 118, 108, 61, 98, 32, 110, 61, 51]⟩ : ByteArray), (⟨#[120, 49]⟩ : ByteArray), (⟨#[]⟩ : ByteArray), (⟨#[100, 117, 114, 61, 53, 109]⟩ : ByteArray), (⟨#[101, 114, 114, 111, 114, 58, 32, 97]⟩ : ByteArray)] : List ByteArray) : List ByteArray)).bind fun y275 => (if 0 ≤ (Int.tmod a0_6 8) then (if (Int.tmod a0_6 8) < (y275.length : Int) then (some (wrap64 (Int.tmod a0_4 12), t272, rdOf ByteArray.empty y275 (Int.tmod a0_6 8))) else (none)) else (none)))) else (some (a0_0, l0_1, a0_2))) = some (r1, r2, r3) := h
  clear h
  by_cases c2 : a0_3 = true
  · subst c2
    have H1 : ((archivistlaw16_few2.f k l0_5).bind fun t272 => ((some (([(⟨#[97]⟩ : ByteArray), (⟨#[98]⟩ : ByteArray), (⟨#[110, 61, 55]⟩ : ByteArray), (⟨#[108, 118, 108, 61, 98, 32, 110, 61, 51]⟩ : ByteArray), (⟨#[120, 49]⟩ : ByteArray), (⟨#[]⟩ : ByteArray), (⟨#[100, 117, 114, 61, 53, 109]⟩ : ByteArray), (⟨#[101, 114, 114, 111, 114, 58, 32, 97]⟩ : ByteArray)] : List ByteArray) : List ByteArray)).bind fun y275 => (if 0 ≤ (Int.tmod a0_6 8) then (if (Int.tmod a0_6 8) < (y275.length : Int) then (some (wrap64 (Int.tmod a0_4 12), t272, rdOf ByteArray.empty y275 (Int.tmod a0_6 8))) else (none)) else (none)))) = some (r1, r2, r3) := by rw [if_pos rfl] at H; exact H
    clear H
    have H := H1
    clear H1
    replace H := Option.bind_eq_some_iff.mp H
    obtain ⟨t272, A30, H⟩ := H
    replace H : ((some (([(⟨#[97]⟩ : ByteArray), (⟨#[98]⟩ : ByteArray), (⟨#[110, 61, 55]⟩ : ByteArray), (⟨#[108, 118, 108, 61, 98, 32, 110, 61, 51]⟩ : ByteArray), (⟨#[120, 49]⟩ : ByteArray), (⟨#[]⟩ : ByteArray), (⟨#[100, 117, 114, 61, 53, 109]⟩ : ByteArray), (⟨#[101, 114, 114, 111, 114, 58, 32, 97]⟩ : ByteArray)] : List ByteArray) : List ByteArray)).bind fun y275 => (if 0 ≤ (Int.tmod a0_6 8) then (if (Int.tmod a0_6 8) < (y275.length : Int) then (some (wrap64 (Int.tmod a0_4 12), t272, rdOf ByteArray.empty y275 (Int.tmod a0_6 8))) else (none)) else (none))) = some (r1, r2, r3) := H
    have A3 := Aside0.mk A30
    clear A30
    obtain ⟨y275, hy275⟩ : ∃ y_ : List ByteArray, y_ = (([(⟨#[97]⟩ : ByteArray), (⟨#[98]⟩ : ByteArray), (⟨#[110, 61, 55]⟩ : ByteArray), (⟨#[108, 118, 108, 61, 98, 32, 110, 61, 51]⟩ : ByteArray), (⟨#[120, 49]⟩ : ByteArray), (⟨#[]⟩ : ByteArray), (⟨#[100, 117, 114, 61, 53, 109]⟩ : ByteArray), (⟨#[101, 114, 114, 111, 114, 58, 32, 97]⟩ : ByteArray)] : List ByteArray)) := ⟨_, rfl⟩
    replace H : (if 0 ≤ (Int.tmod a0_6 8) then (if (Int.tmod a0_6 8) < (y275.length : Int) then (some (wrap64 (Int.tmod a0_4 12), t272, rdOf ByteArray.empty y275 (Int.tmod a0_6 8))) else (none)) else (none)) = some (r1, r2, r3) := by first | (rw [hy275]; with_reducible exact H) | (have H2_ := (Option.bind_some _ _).symm.trans H; rw [hy275]; with_reducible exact H2_) | (have H2_ := (Option.bind_some _ _).symm.trans H; with_reducible exact H2_) | with_reducible exact H | (rw [hy275]; exact H) | exact H
    have Ny275 := Aside0.mk hy275
    clear hy275
    obtain ⟨ji4, hji4⟩ : ∃ j_ : Int, (Int.tmod a0_6 8) = j_ := ⟨_, rfl⟩
    replace H : (if 0 ≤ (ji4) then (if (ji4) < (y275.length : Int) then (some (wrap64 (Int.tmod a0_4 12), t272, rdOf ByteArray.empty y275 (ji4))) else (none)) else (none)) = some (r1, r2, r3) := by first | (rw [hji4] at H; exact H) | (simp only [hji4] at H ⊢; exact H)
    (try rw [hji4] at A3)
    by_cases c5 : 0 ≤ (ji4)
    · rw [if_pos c5] at H
      have c5b0 : decide (0 ≤ (ji4)) = true := decide_eq_true c5
      clear c5
      by_cases c6 : (ji4) < (y275.length : Int)
      · rw [if_pos c6] at H
        have c6b0 : decide ((ji4) < (y275.length : Int)) = true := decide_eq_true c6
        clear c6
        simp only [Option.some.injEq, Prod.mk.injEq] at H
        obtain ⟨rfl, rfl, rfl⟩ := H
        go_enter Try.func16, Try.ntmps16
        try go_wp2_with (first | ((with_reducible refine gate_dst (N := 1) rfl ?_); refine box_event ?hg (N := 1) ?hd (cs := #[.int .i64 a0_0, .slice A0_1 l0_1.length c0_1, .string a0_2, .bool true, .int .i8 a0_4, .slice A0_5 l0_5.length c0_5, .int .u8 a0_6]) (t := 30) ?hr ?_; (case hd => rfl); (case hg => rfl); (case hr => first | (go_simp; done) | (go_simp; rfl)); intro gb270 hg w7 hbox hb; have n0_ := Aside0.mk (Kd.V_below (Kd.V_elderB (by (with_reducible repeat (first | apply Kd.V_alloc | apply Kd.V_drewN | apply Kd.V_drew)); exact HO0_1.out) gb270 (Nat.le_of_eq hg.symm)) hb); have n1_ := Aside0.mk (below_step (by repeat (first | (with_reducible first | exact HB.out | apply below_alloc | apply pw_below_drewN | apply below_drew1) | exact HB.out)) hb); have n2_ := Aside0.mk (hbox); have n3_ := Aside0.mk ((by rw [hg]; exact (below_size (by repeat (first | (with_reducible first | exact HB.out | apply below_alloc | apply pw_below_drewN | apply below_drew1) | exact HB.out))) : w.heap.size ≤ gb270)); have n4_ := Aside0.mk ((by rw [hg]; exact (below_size (by repeat (first | (with_reducible first | exact HB.out | apply below_alloc | apply pw_below_drewN | apply below_drew1) | exact HB.out))) : w.heap.size ≤ gb270)); clear HO0_1; clear HB; have HO0_1 := n0_; have HB := n1_; have BK270 := n2_; have GW270 := n3_; have GE270 := n4_; clear n0_ n1_ n2_ n3_ n4_; clear hb hbox hg) | ((with_reducible refine gate_dst (N := 2) rfl ?_); refine box_event ?hg (N := 2) ?hd (cs := #[.int .i64 0, .slice none 0 0, .string (⟨#[]⟩ : ByteArray)]) (t := 26) ?hr ?_; (case hd => rfl); (case hg => rfl); (case hr => first | (go_simp; done) | (go_simp; rfl)); intro gb271 hg w8 hbox hb; have n0_ := Aside0.mk (Kd.V_below (Kd.V_elderB (by (with_reducible repeat (first | apply Kd.V_alloc | apply Kd.V_drewN | apply Kd.V_drew)); exact HO0_1.out) gb271 (Nat.le_of_eq hg.symm)) hb); have n1_ := Aside0.mk (blk_below (g := gb270) (o := .cells #[.int .i64 a0_0, .slice A0_1 l0_1.length c0_1, .string a0_2, .bool true, .int .i8 a0_4, .slice A0_5 l0_5.length c0_5, .int .u8 a0_6] 30 (0, 0)) (by (with_reducible repeat (first | refine blk_drewN ?_ _ | refine blk_drew ?_ | refine blk_alloc ?_ _)); exact BK270.out) hb); have n2_ := Aside0.mk (below_step (by repeat (first | (with_reducible first | exact HB.out | apply below_alloc | apply pw_below_drewN | apply below_drew1 | refine below_set ?_ GE270.out) | exact HB.out)) hb); have n3_ := Aside0.mk (hbox); have n4_ := Aside0.mk ((by rw [hg]; exact (below_size (by repeat (first | (with_reducible first | exact HB.out | apply below_alloc | apply pw_below_drewN | apply below_drew1 | refine below_set ?_ GE270.out) | exact HB.out))) : w.heap.size ≤ gb271)); have n5_ := Aside0.mk ((by rw [hg]; exact (below_size (by repeat (first | (with_reducible first | exact HB.out | apply below_alloc | apply pw_below_drewN | apply below_drew1 | refine below_set ?_ GE270.out) | exact HB.out))) : w.heap.size ≤ gb271)); have n6_ := Aside0.mk ((by rw [hg]; exact Nat.ne_of_lt (blk_lt (g := gb270) (o := .cells #[.int .i64 a0_0, .slice A0_1 l0_1.length c0_1, .string a0_2, .bool true, .int .i8 a0_4, .slice A0_5 l0_5.length c0_5, .int .u8 a0_6] 30 (0, 0)) (by (with_reducible repeat (first | refine blk_drewN ?_ _ | refine blk_drew ?_ | refine blk_alloc ?_ _)); exact BK270.out)) : gb270 ≠ gb271)); have n7_ := Aside0.mk ((by rw [hg]; exact Nat.ne_of_gt (blk_lt (g := gb270) (o := .cells #[.int .i64 a0_0, .slice A0_1 l0_1.length c0_1, .string a0_2, .bool true, .int .i8 a0_4, .slice A0_5 l0_5.length c0_5, .int .u8 a0_6] 30 (0, 0)) (by (with_reducible repeat (first | refine blk_drewN ?_ _ | refine blk_drew ?_ | refine blk_alloc ?_ _)); exact BK270.out)) : gb271 ≠ gb270)); clear HO0_1; clear BK270; clear HB; have HO0_1 := n0_; have BK270 := n1_; have HB := n2_; have BK271 := n3_; have GW271 := n4_; have GE271 := n5_; have NB270_271 := n6_; have NB271_270 := n7_; clear n0_ n1_ n2_ n3_ n4_ n5_ n6_ n7_; clear hb hbox hg; have hnb9 := NB270_271.out; have hnc9 := NB271_270.out; have hcz10_0 : w8.cell? ⟨gb270, 0, none⟩ = some (.int .i64 a0_0) := (blk_cell BK270.out 0).trans rfl; have hcz10_1 : w8.cell? ⟨gb270, 1, none⟩ = some (.slice A0_1 l0_1.length c0_1) := (blk_cell BK270.out 1).trans rfl; have hcz10_2 : w8.cell? ⟨gb270, 2, none⟩ = some (.string a0_2) := (blk_cell BK270.out 2).trans rfl; have hcz10_3 : w8.cell? ⟨gb270, 3, none⟩ = some (.bool true) := (blk_cell BK270.out 3).trans rfl; have hcz10_4 : w8.cell? ⟨gb270, 4, none⟩ = some (.int .i8 a0_4) := (blk_cell BK270.out 4).trans rfl; have hcz10_5 : w8.cell? ⟨gb270, 5, none⟩ = some (.slice A0_5 l0_5.length c0_5) := (blk_cell BK270.out 5).trans rfl; have hcz10_6 : w8.cell? ⟨gb270, 6, none⟩ = some (.int .u8 a0_6) := (blk_cell BK270.out 6).trans rfl; have hfz10_0 := blk_frozen BK270.out 0; have hfz10_1 := blk_frozen BK270.out 1; have hfz10_2 := blk_frozen BK270.out 2; have hfz10_3 := blk_frozen BK270.out 3; have hfz10_4 := blk_frozen BK270.out 4; have hfz10_5 := blk_frozen BK270.out 5; have hfz10_6 := blk_frozen BK270.out 6))
        have pi278 : (0 ≤ ((ji4) : Int)) = True := eq_true (of_decide_eq_true (by first | (with_reducible assumption) | assumption))
        have qi278 : ((ji4) < (y275.length : Int)) = True := eq_true (of_decide_eq_true (by first | (with_reducible assumption) | assumption))
        have n0_ := Aside0.mk (Kd.V_drew HO0_1.out)
        have n1_ := Aside0.mk (blk_drew BK270.out)
        have n2_ := Aside0.mk (blk_drew BK271.out)
        have n3_ := Aside0.mk (below_drew1 HB.out)
        clear HO0_1
        clear BK270
        clear BK271
        clear HB
        have HO0_1 := n0_
        have BK270 := n1_
        have BK271 := n2_
        have HB := n3_
        clear n0_ n1_ n2_ n3_
        refine start_ (n := 15) (S := fun w' => True) (ds := []) #[false, false, false, false, false, false, false, false, false, false, false, false, false, false, false] (by kernel_rfl) rfl rfl trivial (fun hHeld => ?_); refine with_tabW archivistlaw16_Item_item.tab3 archivistlaw16_Item_item.bits3 (fun HT_ HW_ => ?_)
        generalize w8.drew = w11 at HO0_1 BK270 BK271 HB hHeld ⊢
        refine pure_ (i := 0) (N := some 8) (v := ?_) (a' := ?_) #[true, false, false, false, false, false, false, false, false, false, false, false, false, false, false] rfl rfl (any_of HT_.out (by kernel_rfl)) (fun _ _ _ h => h) (Or.inl ⟨by rfl, ?_⟩) ?_ ?_
        rotate_left
        · intro w'
          go_simp
          with_reducible rfl
        rotate_left
        · simp only [Act.put, List.setIfInBounds_toArray, List.set_cons_zero, List.set_cons_succ, i64_w, i32_w]
          rfl
        refine pure_ (i := 4) (N := some 12) (v := ?_) (a' := ?_) #[true, false, false, false, true, false, false, false, false, false, false, false, false, false, false] rfl rfl (any_of HT_.out (by kernel_rfl)) (fun _ _ _ h => h) (Or.inl ⟨by rfl, ?_⟩) ?_ ?_
        rotate_left
        · intro w'
          go_simp
          with_reducible rfl
        rotate_left
        · simp only [Act.put, List.setIfInBounds_toArray, List.set_cons_zero, List.set_cons_succ, i64_w, i32_w]
          rfl
        refine pure_ (i := 8) (N := some 16) (v := ?_) (a' := ?_) #[true, false, false, false, true, false, false, false, true, false, false, false, false, false, false] rfl rfl (any_of HT_.out (by kernel_rfl)) (fun _ _ _ h => h) (Or.inl ⟨by rfl, ?_⟩) ?_ ?_
        rotate_left
        · intro w'
          go_simp
          with_reducible rfl
        rotate_left
        · simp only [Act.put, List.setIfInBounds_toArray, List.set_cons_zero, List.set_cons_succ, i64_w, i32_w]
          rfl
        refine inv_at [1, 2, 3, 5, 6, 7, 9, 10, 11, 12, 13, 14] (fun a0_ b a w' => ∃ (v273 : Value) (v276 : Value) (adz_v276 : Addr) (m11_ : Value) (m13_ : Value), a = putSel a0_ b [(1, 9, .int .i8 a0_4), (2, 10, .int .i8 (Int.tmod a0_4 12)), (3, 11, .int .i64 (wrap64 (Int.tmod a0_4 12))), (5, 13, .slice A0_5 l0_5.length c0_5), (6, 14, v273), (7, 15, v276), (9, 17, .int .u8 a0_6), (10, 18, .int .u8 ji4), (11, 19, m11_), (12, 20, .string (rdOf ByteArray.empty y275 (ji4))), (13, 21, m13_)] ∧ (Kd.V k103 103 w' w.heap.size (fun k_ => (P0_1_ k_ ∨ w.heap.size ≤ k_) ∧ k_ ≠ gb270 ∧ k_ ≠ gb271) (.slice A0_1 l0_1.length c0_1) l0_1) ∧ (w'.heap[gb270]? = some (.cells #[.int .i64 a0_0, .slice A0_1 l0_1.length c0_1, .string a0_2, .bool true, .int .i8 a0_4, .slice A0_5 l0_5.length c0_5, .int .u8 a0_6] 30 (0, 0))) ∧ (b 14 = false → w'.heap[gb271]? = some (.cells #[.int .i64 0, .slice none 0 0, .string (⟨#[]⟩ : ByteArray)] 26 (0, 0))) ∧ (Below w.heap.size w w') ∧ (b 6 = true → Kd.R k103 103 w' w.heap.size (fun k_ => (w.heap.size ≤ k_)) v273 t272) ∧ (b 7 = true → Kd.R Kd.string 9 w' w.heap.size (fun k_ => (w.heap.size ≤ k_)) v276 y275) ∧ (b 7 = true → ∃ c_, (v276 : Value) = .slice (some adz_v276) y275.length c_) ∧ (b 14 = true → w'.heap[gb271]? = some (.cells #[.int .i64 (wrap64 (Int.tmod a0_4 12)), v273, .string (rdOf ByteArray.empty y275 (ji4))] 26 (0, 0))) ∧ (b 11 = true → (m11_ : Value) = .pointer (some (adz_v276.add ((ji4)).toNat))) ∧ (b 13 = true → (m13_ : Value) = .agg #[.int .i64 (wrap64 (Int.tmod a0_4 12)), v273, .string (rdOf ByteArray.empty y275 (ji4))])) HT_.out HW_.out (by kernel_rfl) (by kernel_rfl) ?_ ?_ ?_
        · exact ⟨.bool false, .bool false, ⟨0, 0, none⟩, .bool false, .bool false, by simp only [putSel, Bool.false_eq_true, if_false], (by first | exact HO0_1.out | exact Kd.V_mono HO0_1.out (fun _ hk => by grind)), BK270.out, fun _ => BK271.out, HB.out, fun h_ => absurd h_ (by decide), fun h_ => absurd h_ (by decide), fun h_ => absurd h_ (by decide), fun h_ => absurd h_ (by decide), fun h_ => absurd h_ (by decide), fun h_ => absurd h_ (by decide)⟩
        · skip
          clear BK270 BK271 HB HO0_1
          refine steps_cons ?_ ?_
          · rintro b a w' ⟨v273, v276, adz_v276, m11_, m13_, ha, Q_HO0_1, Q_BK270, Q_BK271, Q_HB, Q_HO274, Q_HO277, Q_HA_HO277, Q_BK271_e14, Q_X11_, Q_X13_⟩ hb_ hon hoff
            refine ⟨_, rfl, fun K hK => ?_⟩
            have e8 : a.tmps[8]? = some (.pointer (some ⟨gb270, 4, none⟩)) := by rw [ha]; exact (putSel_off rfl).trans rfl
            replace ha := Aside0.mk ha
            have HO0_1 := Aside0.mk Q_HO0_1
            have BK270 := Aside0.mk Q_BK270
            have BK271 := Aside0.mk (Q_BK271 (hoff 14 (by kernel_rfl)))
            have HB := Aside0.mk Q_HB
            have hc0_ : w'.cell? ⟨gb270, 0, none⟩ = some (.int .i64 a0_0) := (blk_cell BK270.out 0).trans rfl
            have hc1_ : w'.cell? ⟨gb270, 1, none⟩ = some (.slice A0_1 l0_1.length c0_1) := (blk_cell BK270.out 1).trans rfl
            have hc2_ : w'.cell? ⟨gb270, 2, none⟩ = some (.string a0_2) := (blk_cell BK270.out 2).trans rfl
            have hc3_ : w'.cell? ⟨gb270, 3, none⟩ = some (.bool true) := (blk_cell BK270.out 3).trans rfl
            have hc4_ : w'.cell? ⟨gb270, 4, none⟩ = some (.int .i8 a0_4) := (blk_cell BK270.out 4).trans rfl
            have hc5_ : w'.cell? ⟨gb270, 5, none⟩ = some (.slice A0_5 l0_5.length c0_5) := (blk_cell BK270.out 5).trans rfl
            have hc6_ : w'.cell? ⟨gb270, 6, none⟩ = some (.int .u8 a0_6) := (blk_cell BK270.out 6).trans rfl
            refine value_ (w1 := w') (v := .int .i8 a0_4) (by rfl) rfl ?_ ?_
            · go_simp
              (try simp only [i64_w])
              try rfl
            refine hK.out _ _ ⟨v273, v276, adz_v276, m11_, m13_, (by rw [ha.out]; exact putSel_upk 0 hb_ rfl rfl rfl), Q_HO0_1, Q_BK270, Q_BK271, Q_HB, Q_HO274, Q_HO277, Q_HA_HO277, fun h0_ => absurd ((hoff 14 (by kernel_rfl)).symm.trans h0_) (by decide), Q_X11_, fun h0_ => absurd ((hoff 13 (by kernel_rfl)).symm.trans h0_) (by decide)⟩
          refine steps_cons ?_ ?_
          · rintro b a w' ⟨v273, v276, adz_v276, m11_, m13_, ha, Q_HO0_1, Q_BK270, Q_BK271, Q_HB, Q_HO274, Q_HO277, Q_HA_HO277, Q_BK271_e14, Q_X11_, Q_X13_⟩ hb_ hon hoff
            refine ⟨_, rfl, fun K hK => ?_⟩
            have e9 : a.tmps[9]? = some (.int .i8 a0_4) := by rw [ha]; exact putSel_on (e := (1, 9, .int .i8 a0_4)) 0 rfl rfl (hon 1 (by kernel_rfl)) rfl
            replace ha := Aside0.mk ha
            have HO0_1 := Aside0.mk Q_HO0_1
            have BK270 := Aside0.mk Q_BK270
            have BK271 := Aside0.mk (Q_BK271 (hoff 14 (by kernel_rfl)))
            have HB := Aside0.mk Q_HB
            refine value_ (w1 := w') (v := .int .i8 (Int.tmod a0_4 12)) (by rfl) rfl ?_ ?_
            · go_simp
              (try simp only [i64_w])
              try rfl
            refine hK.out _ _ ⟨v273, v276, adz_v276, m11_, m13_, (by rw [ha.out]; exact putSel_upk 1 hb_ rfl rfl rfl), Q_HO0_1, Q_BK270, Q_BK271, Q_HB, Q_HO274, Q_HO277, Q_HA_HO277, fun h0_ => absurd ((hoff 14 (by kernel_rfl)).symm.trans h0_) (by decide), Q_X11_, fun h0_ => absurd ((hoff 13 (by kernel_rfl)).symm.trans h0_) (by decide)⟩
          refine steps_cons ?_ ?_
          · rintro b a w' ⟨v273, v276, adz_v276, m11_, m13_, ha, Q_HO0_1, Q_BK270, Q_BK271, Q_HB, Q_HO274, Q_HO277, Q_HA_HO277, Q_BK271_e14, Q_X11_, Q_X13_⟩ hb_ hon hoff
            refine ⟨_, rfl, fun K hK => ?_⟩
            have e10 : a.tmps[10]? = some (.int .i8 (Int.tmod a0_4 12)) := by rw [ha]; exact putSel_on (e := (2, 10, .int .i8 (Int.tmod a0_4 12))) 1 rfl rfl (hon 2 (by kernel_rfl)) rfl
            replace ha := Aside0.mk ha
            have HO0_1 := Aside0.mk Q_HO0_1
            have BK270 := Aside0.mk Q_BK270
            have BK271 := Aside0.mk (Q_BK271 (hoff 14 (by kernel_rfl)))
            have HB := Aside0.mk Q_HB
            refine value_ (w1 := w') (v := .int .i64 (wrap64 (Int.tmod a0_4 12))) (by rfl) rfl ?_ ?_
            · go_simp
              (try simp only [i64_w])
              try rfl
            refine hK.out _ _ ⟨v273, v276, adz_v276, m11_, m13_, (by rw [ha.out]; exact putSel_upk 2 hb_ rfl rfl rfl), Q_HO0_1, Q_BK270, Q_BK271, Q_HB, Q_HO274, Q_HO277, Q_HA_HO277, fun h0_ => absurd ((hoff 14 (by kernel_rfl)).symm.trans h0_) (by decide), Q_X11_, fun h0_ => absurd ((hoff 13 (by kernel_rfl)).symm.trans h0_) (by decide)⟩
          refine steps_cons ?_ ?_
          · rintro b a w' ⟨v273, v276, adz_v276, m11_, m13_, ha, Q_HO0_1, Q_BK270, Q_BK271, Q_HB, Q_HO274, Q_HO277, Q_HA_HO277, Q_BK271_e14, Q_X11_, Q_X13_⟩ hb_ hon hoff
            refine ⟨_, rfl, fun K hK => ?_⟩
            have e12 : a.tmps[12]? = some (.pointer (some ⟨gb270, 5, none⟩)) := by rw [ha]; exact (putSel_off rfl).trans rfl
            replace ha := Aside0.mk ha
            have HO0_1 := Aside0.mk Q_HO0_1
            have BK270 := Aside0.mk Q_BK270
            have BK271 := Aside0.mk (Q_BK271 (hoff 14 (by kernel_rfl)))
            have HB := Aside0.mk Q_HB
            have hc0_ : w'.cell? ⟨gb270, 0, none⟩ = some (.int .i64 a0_0) := (blk_cell BK270.out 0).trans rfl
            have hc1_ : w'.cell? ⟨gb270, 1, none⟩ = some (.slice A0_1 l0_1.length c0_1) := (blk_cell BK270.out 1).trans rfl
            have hc2_ : w'.cell? ⟨gb270, 2, none⟩ = some (.string a0_2) := (blk_cell BK270.out 2).trans rfl
            have hc3_ : w'.cell? ⟨gb270, 3, none⟩ = some (.bool true) := (blk_cell BK270.out 3).trans rfl
            have hc4_ : w'.cell? ⟨gb270, 4, none⟩ = some (.int .i8 a0_4) := (blk_cell BK270.out 4).trans rfl
            have hc5_ : w'.cell? ⟨gb270, 5, none⟩ = some (.slice A0_5 l0_5.length c0_5) := (blk_cell BK270.out 5).trans rfl
            have hc6_ : w'.cell? ⟨gb270, 6, none⟩ = some (.int .u8 a0_6) := (blk_cell BK270.out 6).trans rfl
            refine value_ (w1 := w') (v := .slice A0_5 l0_5.length c0_5) (by rfl) rfl ?_ ?_
            · go_simp
              (try simp only [i64_w])
              try rfl
            refine hK.out _ _ ⟨v273, v276, adz_v276, m11_, m13_, (by rw [ha.out]; exact putSel_upk 3 hb_ rfl rfl rfl), Q_HO0_1, Q_BK270, Q_BK271, Q_HB, fun h0_ => absurd ((hoff 6 (by kernel_rfl)).symm.trans h0_) (by decide), Q_HO277, Q_HA_HO277, fun h0_ => absurd ((hoff 14 (by kernel_rfl)).symm.trans h0_) (by decide), Q_X11_, fun h0_ => absurd ((hoff 13 (by kernel_rfl)).symm.trans h0_) (by decide)⟩
          refine steps_cons ?_ ?_
          · rintro b a w' ⟨v273, v276, adz_v276, m11_, m13_, ha, Q_HO0_1, Q_BK270, Q_BK271, Q_HB, Q_HO274, Q_HO277, Q_HA_HO277, Q_BK271_e14, Q_X11_, Q_X13_⟩ hb_ hon hoff
            refine ⟨_, rfl, fun K hK => ?_⟩
            have e13 : a.tmps[13]? = some (.slice A0_5 l0_5.length c0_5) := by rw [ha]; exact putSel_on (e := (5, 13, .slice A0_5 l0_5.length c0_5)) 3 rfl rfl (hon 5 (by kernel_rfl)) rfl
            replace ha := Aside0.mk ha
            have HO0_1 := Aside0.mk Q_HO0_1
            have BK270 := Aside0.mk Q_BK270
            have BK271 := Aside0.mk (Q_BK271 (hoff 14 (by kernel_rfl)))
            have HB := Aside0.mk Q_HB
            refine goes_ Try.func35 (by kernel_rfl) rfl #[.slice A0_5 l0_5.length c0_5] (by rfl) rfl rfl (by first | (simp only [List.map_toArray, List.map_cons, List.map_nil, Act.eval, Array.getD_eq_getD_getElem?, Option.getD_some, e13]; done) | (simp only [List.map_toArray, List.map_cons, List.map_nil, Act.eval, Array.getD_eq_getD_getElem?, Option.getD_some, e13]; rfl)) ?_
            with_reducible refine (archivistlaw16_few2.calls k _ _ l0_5 t272 _ ?side1 ?side2 A3.out).mono ?_
            (case side1 => repeat (first | exact (Kd.C_below HR0_5.out HB.out) | (with_reducible refine Kd.C_alloc ?_ _) | (with_reducible refine Kd.C_drewN ?_ _) | (with_reducible refine Kd.C_drew ?_)))
            (case side2 => exact HC0_5.out)
            rintro e w12 ⟨v273, rfl, ho0, hb⟩
            refine ⟨_, rfl, ?_⟩
            have n0_ := Aside0.mk (Kd.V_elder' (by (with_reducible repeat (first | apply Kd.V_alloc | apply Kd.V_drewN | apply Kd.V_drew)); exact HO0_1.out) (Kd.R_base ho0) hb)
            have n1_ := Aside0.mk (Kd.R_lower (Kd.R_newM (M := fun k_ => (w.heap.size ≤ k_)) ho0 (below_size (by repeat (first | (with_reducible first | exact HB.out | apply below_alloc | apply pw_below_drewN | apply below_drew1 | refine below_set ?_ GE270.out | refine below_set ?_ GE271.out) | exact HB.out))) (fun k_ h_ => h_)) (below_size (by repeat (first | (with_reducible first | exact HB.out | apply below_alloc | apply pw_below_drewN | apply below_drew1 | refine below_set ?_ GE270.out | refine below_set ?_ GE271.out) | exact HB.out))))
            have n2_ := Aside0.mk (blk_below (g := gb270) (o := .cells #[.int .i64 a0_0, .slice A0_1 l0_1.length c0_1, .string a0_2, .bool true, .int .i8 a0_4, .slice A0_5 l0_5.length c0_5, .int .u8 a0_6] 30 (0, 0)) (by (with_reducible repeat (first | refine blk_drewN ?_ _ | refine blk_drew ?_ | refine blk_alloc ?_ _)); exact BK270.out) hb)
            have n3_ := Aside0.mk (blk_below (g := gb271) (o := .cells #[.int .i64 0, .slice none 0 0, .string (⟨#[]⟩ : ByteArray)] 26 (0, 0)) (by (with_reducible repeat (first | refine blk_drewN ?_ _ | refine blk_drew ?_ | refine blk_alloc ?_ _)); exact BK271.out) hb)
            have n4_ := Aside0.mk (below_step (by repeat (first | (with_reducible first | exact HB.out | apply below_alloc | apply pw_below_drewN | apply below_drew1 | refine below_set ?_ GE270.out | refine below_set ?_ GE271.out) | exact HB.out)) hb)
            have z_HO277 := fun (h0_ : b 7 = true) => (show Kd.R Kd.string 9 w12 w.heap.size (fun k_ => (w.heap.size ≤ k_)) v276 y275 from by first | exact (Kd.R_below (by (with_reducible repeat (first | apply Kd.R_alloc | apply Kd.R_drewN | apply Kd.R_drew)); exact (Q_HO277 h0_)) hb) | exact Kd.R_mono (Kd.R_below (by (with_reducible repeat (first | apply Kd.R_alloc | apply Kd.R_drewN | apply Kd.R_drew)); exact (Q_HO277 h0_)) hb) (fun _ h_ => by first | trivial | exact h_ | exact h_.1))
            clear HO0_1
            clear BK270
            clear BK271
            clear HB
            have HO0_1 := n0_
            have HO274 := n1_
            have BK270 := n2_
            have BK271 := n3_
            have HB := n4_
            clear n0_ n1_ n2_ n3_ n4_
            (try clear hb)
            (try clear hb2)
            (try clear hk)
            (try clear hi)
            (try clear ho0)
            refine hK.out _ _ ⟨v273, v276, adz_v276, m11_, m13_, (by rw [ha.out]; exact putSel_upk 4 hb_ rfl rfl rfl), (by (with_reducible repeat (first | apply Kd.V_alloc | apply Kd.V_drewN | apply Kd.V_drew)); exact Kd.V_mono HO0_1.out (fun _ hk => by first | exact ⟨hk.1.1.1, ⟨hk.2, ⟨hk.1.1.2, hk.1.2⟩⟩⟩ | grind)), (by (with_reducible repeat (first | refine blk_drewN ?_ _ | refine blk_drew ?_ | refine blk_alloc ?_ _)); exact BK270.out), fun _ => (by (with_reducible repeat (first | refine blk_drewN ?_ _ | refine blk_drew ?_ | refine blk_alloc ?_ _)); exact BK271.out), (by repeat (first | (with_reducible first | exact HB.out | apply below_alloc | apply pw_below_drewN | apply below_drew1 | refine below_set ?_ GE270.out | refine below_set ?_ GE271.out) | exact HB.out)), fun _ => (by (with_reducible repeat (first | apply Kd.R_alloc | apply Kd.R_drewN | apply Kd.R_drew)); exact Kd.R_mono HO274.out (fun _ hk => hk.1)), z_HO277, Q_HA_HO277, fun h0_ => absurd ((hoff 14 (by kernel_rfl)).symm.trans h0_) (by decide), Q_X11_, fun h0_ => absurd ((hoff 13 (by kernel_rfl)).symm.trans h0_) (by decide)⟩
          refine steps_cons ?_ ?_
          · rintro b a w' ⟨v273, v276, adz_v276, m11_, m13_, ha, Q_HO0_1, Q_BK270, Q_BK271, Q_HB, Q_HO274, Q_HO277, Q_HA_HO277, Q_BK271_e14, Q_X11_, Q_X13_⟩ hb_ hon hoff
            refine ⟨_, rfl, fun K hK => ?_⟩
            replace ha := Aside0.mk ha
            have HO0_1 := Aside0.mk Q_HO0_1
            have BK270 := Aside0.mk Q_BK270
            have BK271 := Aside0.mk (Q_BK271 (hoff 14 (by kernel_rfl)))
            have HB := Aside0.mk Q_HB
            refine Kd.R_lit_step Kd.string _ 9 ?hg (N := 15) ?hd (xs := ([(⟨#[97]⟩ : ByteArray), (⟨#[98]⟩ : ByteArray), (⟨#[110, 61, 55]⟩ : ByteArray), (⟨#[108, 118, 108, 61, 98, 32, 110, 61, 51]⟩ : ByteArray), (⟨#[120, 49]⟩ : ByteArray), (⟨#[]⟩ : ByteArray), (⟨#[100, 117, 114, 61, 53, 109]⟩ : ByteArray), (⟨#[101, 114, 114, 111, 114, 58, 32, 97]⟩ : ByteArray)] : List ByteArray)) (inner := [.string (⟨#[97]⟩ : ByteArray), .string (⟨#[98]⟩ : ByteArray), .string (⟨#[110, 61, 55]⟩ : ByteArray), .string (⟨#[108, 118, 108, 61, 98, 32, 110, 61, 51]⟩ : ByteArray), .string (⟨#[120, 49]⟩ : ByteArray), .string (⟨#[]⟩ : ByteArray), .string (⟨#[100, 117, 114, 61, 53, 109]⟩ : ByteArray), .string (⟨#[101, 114, 114, 111, 114, 58, 32, 97]⟩ : ByteArray)]) (ok := fun _ => True) (okp := fun _ => True) ?hr ?hp (fun _ hk => hk) trivial (Below.refl _ _) (Nat.le_refl _) (by simp) ?_; (case hd => rfl); (case hg => rfl); (case hr => first | (go_simp; done) | (go_simp; rfl)); (case hp => exact (Reps.one (show Kd.M Kd.string _ _ _ (⟨#[97]⟩ : ByteArray) [.string (⟨#[97]⟩ : ByteArray)] from rfl) (Reps.one (show Kd.M Kd.string _ _ _ (⟨#[98]⟩ : ByteArray) [.string (⟨#[98]⟩ : ByteArray)] from rfl) (Reps.one (show Kd.M Kd.string _ _ _ (⟨#[110, 61, 55]⟩ : ByteArray) [.string (⟨#[110, 61, 55]⟩ : ByteArray)] from rfl) (Reps.one (show Kd.M Kd.string _ _ _ (⟨#[108, 118, 108, 61, 98, 32, 110, 61, 51]⟩ : ByteArray) [.string (⟨#[108, 118, 108, 61, 98, 32, 110, 61, 51]⟩ : ByteArray)] from rfl) (Reps.one (show Kd.M Kd.string _ _ _ (⟨#[120, 49]⟩ : ByteArray) [.string (⟨#[120, 49]⟩ : ByteArray)] from rfl) (Reps.one (show Kd.M Kd.string _ _ _ (⟨#[]⟩ : ByteArray) [.string (⟨#[]⟩ : ByteArray)] from rfl) (Reps.one (show Kd.M Kd.string _ _ _ (⟨#[100, 117, 114, 61, 53, 109]⟩ : ByteArray) [.string (⟨#[100, 117, 114, 61, 53, 109]⟩ : ByteArray)] from rfl) (Reps.one (show Kd.M Kd.string _ _ _ (⟨#[101, 114, 114, 111, 114, 58, 32, 97]⟩ : ByteArray) [.string (⟨#[101, 114, 114, 111, 114, 58, 32, 97]⟩ : ByteArray)] from rfl) (Reps.none _ _))))))))))
            intro v276 w12 ho13 hb hg_ hnew_
            clear hg_ hnew_
            (first | rw [← Ny275.out] at ho13 | (simp only [Int.reduceToNat] at ho13; rw [← Ny275.out] at ho13))
            have n0_ := Aside0.mk (Kd.V_elder' (by (with_reducible repeat (first | apply Kd.V_alloc | apply Kd.V_drewN | apply Kd.V_drew)); exact HO0_1.out) (Kd.R_base ho13) hb)
            have n1_ := Aside0.mk (Kd.R_lower (Kd.R_newM (M := fun k_ => (w.heap.size ≤ k_)) ho13 (below_size (by repeat (first | (with_reducible first | exact HB.out | apply below_alloc | apply pw_below_drewN | apply below_drew1 | refine below_set ?_ GE270.out | refine below_set ?_ GE271.out) | exact HB.out))) (fun k_ h_ => h_)) (below_size (by repeat (first | (with_reducible first | exact HB.out | apply below_alloc | apply pw_below_drewN | apply below_drew1 | refine below_set ?_ GE270.out | refine below_set ?_ GE271.out) | exact HB.out))))
            have n2_ := Aside0.mk (blk_below (g := gb270) (o := .cells #[.int .i64 a0_0, .slice A0_1 l0_1.length c0_1, .string a0_2, .bool true, .int .i8 a0_4, .slice A0_5 l0_5.length c0_5, .int .u8 a0_6] 30 (0, 0)) (by (with_reducible repeat (first | refine blk_drewN ?_ _ | refine blk_drew ?_ | refine blk_alloc ?_ _)); exact BK270.out) hb)
            have n3_ := Aside0.mk (blk_below (g := gb271) (o := .cells #[.int .i64 0, .slice none 0 0, .string (⟨#[]⟩ : ByteArray)] 26 (0, 0)) (by (with_reducible repeat (first | refine blk_drewN ?_ _ | refine blk_drew ?_ | refine blk_alloc ?_ _)); exact BK271.out) hb)
            have n4_ := Aside0.mk (below_step (by repeat (first | (with_reducible first | exact HB.out | apply below_alloc | apply pw_below_drewN | apply below_drew1 | refine below_set ?_ GE270.out | refine below_set ?_ GE271.out) | exact HB.out)) hb)
            have z_HO274 := fun (h0_ : b 6 = true) => (show Kd.R k103 103 w12 w.heap.size (fun k_ => (w.heap.size ≤ k_)) v273 t272 from by first | exact (Kd.R_below (by (with_reducible repeat (first | apply Kd.R_alloc | apply Kd.R_drewN | apply Kd.R_drew)); exact (Q_HO274 h0_)) hb) | exact Kd.R_mono (Kd.R_below (by (with_reducible repeat (first | apply Kd.R_alloc | apply Kd.R_drewN | apply Kd.R_drew)); exact (Q_HO274 h0_)) hb) (fun _ h_ => by first | trivial | exact h_ | exact h_.1))
            clear HO0_1
            clear BK270
            clear BK271
            clear HB
            have HO0_1 := n0_
            have HO277 := n1_
            have BK270 := n2_
            have BK271 := n3_
            have HB := n4_
            clear n0_ n1_ n2_ n3_ n4_
            clear hb ho13
            obtain ⟨Ao14, co14, eo14⟩ := Kd.R_slice HO277.out
            subst eo14
            obtain ⟨ado14, fo14, _⟩ := Kd.at_string (Kd.R_reads' HO277.out).2.2 0 (by decide) (by rw [Ny275.out]; simp)
            cases fo14
            refine hK.out _ _ ⟨v273, .slice (some ado14) y275.length co14, ado14, m11_, m13_, (by rw [ha.out]; exact putSel_upk 5 hb_ rfl rfl rfl), (by (with_reducible repeat (first | apply Kd.V_alloc | apply Kd.V_drewN | apply Kd.V_drew)); exact Kd.V_mono HO0_1.out (fun _ hk => by first | exact ⟨hk.1.1.1, ⟨hk.2, ⟨hk.1.1.2, hk.1.2⟩⟩⟩ | grind)), (by (with_reducible repeat (first | refine blk_drewN ?_ _ | refine blk_drew ?_ | refine blk_alloc ?_ _)); exact BK270.out), fun _ => (by (with_reducible repeat (first | refine blk_drewN ?_ _ | refine blk_drew ?_ | refine blk_alloc ?_ _)); exact BK271.out), (by repeat (first | (with_reducible first | exact HB.out | apply below_alloc | apply pw_below_drewN | apply below_drew1 | refine below_set ?_ GE270.out | refine below_set ?_ GE271.out) | exact HB.out)), z_HO274, fun _ => (by (with_reducible repeat (first | apply Kd.R_alloc | apply Kd.R_drewN | apply Kd.R_drew)); exact Kd.R_mono HO277.out (fun _ hk => hk.1)), fun _ => ⟨_, rfl⟩, fun h0_ => absurd ((hoff 14 (by kernel_rfl)).symm.trans h0_) (by decide), fun h0_ => absurd ((hoff 11 (by kernel_rfl)).symm.trans h0_) (by decide), fun h0_ => absurd ((hoff 13 (by kernel_rfl)).symm.trans h0_) (by decide)⟩
          refine steps_cons ?_ ?_
          · rintro b a w' ⟨v273, v276, adz_v276, m11_, m13_, ha, Q_HO0_1, Q_BK270, Q_BK271, Q_HB, Q_HO274, Q_HO277, Q_HA_HO277, Q_BK271_e14, Q_X11_, Q_X13_⟩ hb_ hon hoff
            refine ⟨_, rfl, fun K hK => ?_⟩
            have e16 : a.tmps[16]? = some (.pointer (some ⟨gb270, 6, none⟩)) := by rw [ha]; exact (putSel_off rfl).trans rfl
            replace ha := Aside0.mk ha
            have HO0_1 := Aside0.mk Q_HO0_1
            have BK270 := Aside0.mk Q_BK270
            have BK271 := Aside0.mk (Q_BK271 (hoff 14 (by kernel_rfl)))
            have HB := Aside0.mk Q_HB
            have hc0_ : w'.cell? ⟨gb270, 0, none⟩ = some (.int .i64 a0_0) := (blk_cell BK270.out 0).trans rfl
            have hc1_ : w'.cell? ⟨gb270, 1, none⟩ = some (.slice A0_1 l0_1.length c0_1) := (blk_cell BK270.out 1).trans rfl
            have hc2_ : w'.cell? ⟨gb270, 2, none⟩ = some (.string a0_2) := (blk_cell BK270.out 2).trans rfl
            have hc3_ : w'.cell? ⟨gb270, 3, none⟩ = some (.bool true) := (blk_cell BK270.out 3).trans rfl
            have hc4_ : w'.cell? ⟨gb270, 4, none⟩ = some (.int .i8 a0_4) := (blk_cell BK270.out 4).trans rfl
            have hc5_ : w'.cell? ⟨gb270, 5, none⟩ = some (.slice A0_5 l0_5.length c0_5) := (blk_cell BK270.out 5).trans rfl
            have hc6_ : w'.cell? ⟨gb270, 6, none⟩ = some (.int .u8 a0_6) := (blk_cell BK270.out 6).trans rfl
            refine value_ (w1 := w') (v := .int .u8 a0_6) (by rfl) rfl ?_ ?_
            · go_simp
              (try simp only [i64_w])
              try rfl
            refine hK.out _ _ ⟨v273, v276, adz_v276, m11_, m13_, (by rw [ha.out]; exact putSel_upk 6 hb_ rfl rfl rfl), Q_HO0_1, Q_BK270, Q_BK271, Q_HB, Q_HO274, Q_HO277, Q_HA_HO277, fun h0_ => absurd ((hoff 14 (by kernel_rfl)).symm.trans h0_) (by decide), fun h0_ => absurd ((hoff 11 (by kernel_rfl)).symm.trans h0_) (by decide), fun h0_ => absurd ((hoff 13 (by kernel_rfl)).symm.trans h0_) (by decide)⟩
          refine steps_cons ?_ ?_
          · rintro b a w' ⟨v273, v276, adz_v276, m11_, m13_, ha, Q_HO0_1, Q_BK270, Q_BK271, Q_HB, Q_HO274, Q_HO277, Q_HA_HO277, Q_BK271_e14, Q_X11_, Q_X13_⟩ hb_ hon hoff
            refine ⟨_, rfl, fun K hK => ?_⟩
            have e17 : a.tmps[17]? = some (.int .u8 a0_6) := by rw [ha]; exact putSel_on (e := (9, 17, .int .u8 a0_6)) 6 rfl rfl (hon 9 (by kernel_rfl)) rfl
            replace ha := Aside0.mk ha
            have HO0_1 := Aside0.mk Q_HO0_1
            have BK270 := Aside0.mk Q_BK270
            have BK271 := Aside0.mk (Q_BK271 (hoff 14 (by kernel_rfl)))
            have HB := Aside0.mk Q_HB
            refine value_ (w1 := w') (v := .int .u8 ji4) (by rfl) rfl ?_ ?_
            · go_simp
              (try simp only [i64_w])
              try rfl
            refine hK.out _ _ ⟨v273, v276, adz_v276, m11_, m13_, (by rw [ha.out]; exact putSel_upk 7 hb_ rfl rfl rfl), Q_HO0_1, Q_BK270, Q_BK271, Q_HB, Q_HO274, Q_HO277, Q_HA_HO277, fun h0_ => absurd ((hoff 14 (by kernel_rfl)).symm.trans h0_) (by decide), fun h0_ => absurd ((hoff 11 (by kernel_rfl)).symm.trans h0_) (by decide), fun h0_ => absurd ((hoff 13 (by kernel_rfl)).symm.trans h0_) (by decide)⟩
          refine steps_cons ?_ ?_
          · rintro b a w' ⟨v273, v276, adz_v276, m11_, m13_, ha, Q_HO0_1, Q_BK270, Q_BK271, Q_HB, Q_HO274, Q_HO277, Q_HA_HO277, Q_BK271_e14, Q_X11_, Q_X13_⟩ hb_ hon hoff
            refine ⟨_, rfl, fun K hK => ?_⟩
            have e15 : a.tmps[15]? = some (v276) := by rw [ha]; exact putSel_on (e := (7, 15, v276)) 5 rfl rfl (hon 7 (by kernel_rfl)) rfl
            have e18 : a.tmps[18]? = some (.int .u8 ji4) := by rw [ha]; exact putSel_on (e := (10, 18, .int .u8 ji4)) 7 rfl rfl (hon 10 (by kernel_rfl)) rfl
            replace ha := Aside0.mk ha
            have HO0_1 := Aside0.mk Q_HO0_1
            have BK270 := Aside0.mk Q_BK270
            have BK271 := Aside0.mk (Q_BK271 (hoff 14 (by kernel_rfl)))
            have HB := Aside0.mk Q_HB
            have HO277 := Aside0.mk (Q_HO277 (hon 7 (by kernel_rfl)))
            have HA_HO277 := Aside0.mk (Q_HA_HO277 (hon 7 (by kernel_rfl)))
            obtain ⟨c_, hv_⟩ := HA_HO277.out
            rw [hv_] at e15
            refine value_ (w1 := w') (v := .pointer (some (adz_v276.add ((ji4)).toNat))) (by rfl) rfl ?_ ?_
            · go_simp
              (try simp only [i64_w])
              try rfl
            refine hK.out _ _ ⟨v273, v276, adz_v276, (.pointer (some (adz_v276.add ((ji4)).toNat))), m13_, (by rw [ha.out]; exact putSel_upk 8 hb_ rfl rfl rfl), Q_HO0_1, Q_BK270, Q_BK271, Q_HB, Q_HO274, Q_HO277, Q_HA_HO277, fun h0_ => absurd ((hoff 14 (by kernel_rfl)).symm.trans h0_) (by decide), fun _ => rfl, fun h0_ => absurd ((hoff 13 (by kernel_rfl)).symm.trans h0_) (by decide)⟩
          refine steps_cons ?_ ?_
          · rintro b a w' ⟨v273, v276, adz_v276, m11_, m13_, ha, Q_HO0_1, Q_BK270, Q_BK271, Q_HB, Q_HO274, Q_HO277, Q_HA_HO277, Q_BK271_e14, Q_X11_, Q_X13_⟩ hb_ hon hoff
            refine ⟨_, rfl, fun K hK => ?_⟩
            have e19 : a.tmps[19]? = some (m11_) := by rw [ha]; exact putSel_on (e := (11, 19, m11_)) 8 rfl rfl (hon 11 (by kernel_rfl)) rfl
            rw [Q_X11_ (hon 11 (by kernel_rfl))] at e19
            replace ha := Aside0.mk ha
            have HO0_1 := Aside0.mk Q_HO0_1
            have BK270 := Aside0.mk Q_BK270
            have BK271 := Aside0.mk (Q_BK271 (hoff 14 (by kernel_rfl)))
            have HB := Aside0.mk Q_HB
            have HO277 := Aside0.mk (Q_HO277 (hon 7 (by kernel_rfl)))
            have HA_HO277 := Aside0.mk (Q_HA_HO277 (hon 7 (by kernel_rfl)))
            obtain ⟨c_, hv_⟩ := HA_HO277.out
            have hF_ := HO277.out
            rw [hv_] at hF_
            obtain ⟨ad_, ea_, hx_⟩ := Kd.at_string (Kd.R_reads' hF_).2.2 (ji4) (of_eq_true pi278) (of_eq_true qi278)
            cases ea_
            refine value_ (w1 := w') (v := .string (rdOf ByteArray.empty y275 (ji4))) (by rfl) rfl ?_ ?_
            · go_simp
              (try simp only [i64_w])
              try rfl
            refine hK.out _ _ ⟨v273, v276, adz_v276, m11_, m13_, (by rw [ha.out]; exact putSel_upk 9 hb_ rfl rfl rfl), Q_HO0_1, Q_BK270, Q_BK271, Q_HB, Q_HO274, Q_HO277, Q_HA_HO277, fun h0_ => absurd ((hoff 14 (by kernel_rfl)).symm.trans h0_) (by decide), Q_X11_, fun h0_ => absurd ((hoff 13 (by kernel_rfl)).symm.trans h0_) (by decide)⟩
          refine steps_cons ?_ ?_
          · rintro b a w' ⟨v273, v276, adz_v276, m11_, m13_, ha, Q_HO0_1, Q_BK270, Q_BK271, Q_HB, Q_HO274, Q_HO277, Q_HA_HO277, Q_BK271_e14, Q_X11_, Q_X13_⟩ hb_ hon hoff
            refine ⟨_, rfl, fun K hK => ?_⟩
            have e11 : a.tmps[11]? = some (.int .i64 (wrap64 (Int.tmod a0_4 12))) := by rw [ha]; exact putSel_on (e := (3, 11, .int .i64 (wrap64 (Int.tmod a0_4 12)))) 2 rfl rfl (hon 3 (by kernel_rfl)) rfl
            have e14 : a.tmps[14]? = some (v273) := by rw [ha]; exact putSel_on (e := (6, 14, v273)) 4 rfl rfl (hon 6 (by kernel_rfl)) rfl
            have e20 : a.tmps[20]? = some (.string (rdOf ByteArray.empty y275 (ji4))) := by rw [ha]; exact putSel_on (e := (12, 20, .string (rdOf ByteArray.empty y275 (ji4)))) 9 rfl rfl (hon 12 (by kernel_rfl)) rfl
            replace ha := Aside0.mk ha
            have HO0_1 := Aside0.mk Q_HO0_1
            have BK270 := Aside0.mk Q_BK270
            have BK271 := Aside0.mk (Q_BK271 (hoff 14 (by kernel_rfl)))
            have HB := Aside0.mk Q_HB
            have HO274 := Aside0.mk (Q_HO274 (hon 6 (by kernel_rfl)))
            have HO277 := Aside0.mk (Q_HO277 (hon 7 (by kernel_rfl)))
            have HA_HO277 := Aside0.mk (Q_HA_HO277 (hon 7 (by kernel_rfl)))
            obtain ⟨Ao13_0, co13_0, eo_⟩ := Kd.R_slice HO274.out
            subst eo_
            refine value_ (w1 := w') (v := .agg #[.int .i64 (wrap64 (Int.tmod a0_4 12)), .slice Ao13_0 t272.length co13_0, .string (rdOf ByteArray.empty y275 (ji4))]) (by rfl) rfl ?_ ?_
            · go_simp
              (try simp only [i64_w])
              try rfl
            refine hK.out _ _ ⟨.slice Ao13_0 t272.length co13_0, v276, adz_v276, m11_, (.agg #[.int .i64 (wrap64 (Int.tmod a0_4 12)), .slice Ao13_0 t272.length co13_0, .string (rdOf ByteArray.empty y275 (ji4))]), (by rw [ha.out]; exact putSel_upk 10 hb_ rfl rfl rfl), Q_HO0_1, Q_BK270, Q_BK271, Q_HB, Q_HO274, Q_HO277, Q_HA_HO277, fun h0_ => absurd ((hoff 14 (by kernel_rfl)).symm.trans h0_) (by decide), Q_X11_, fun _ => rfl⟩
          refine steps_cons ?_ ?_
          · rintro b a w' ⟨v273, v276, adz_v276, m11_, m13_, ha, Q_HO0_1, Q_BK270, Q_BK271, Q_HB, Q_HO274, Q_HO277, Q_HA_HO277, Q_BK271_e14, Q_X11_, Q_X13_⟩ hb_ hon hoff
            refine ⟨_, rfl, fun K hK => ?_⟩
            have e2 : a.tmps[2]? = some (.pointer (some ⟨gb271, 0, none⟩)) := by rw [ha]; exact (putSel_off rfl).trans rfl
            have e21 : a.tmps[21]? = some (m13_) := by rw [ha]; exact putSel_on (e := (13, 21, m13_)) 10 rfl rfl (hon 13 (by kernel_rfl)) rfl
            rw [Q_X13_ (hon 13 (by kernel_rfl))] at e21
            replace ha := Aside0.mk ha
            have HO0_1 := Aside0.mk Q_HO0_1
            have BK270 := Aside0.mk Q_BK270
            have BK271 := Aside0.mk (Q_BK271 hb_)
            have HB := Aside0.mk Q_HB
            have HO274 := Aside0.mk (Q_HO274 (hon 6 (by kernel_rfl)))
            have HO277 := Aside0.mk (Q_HO277 (hon 7 (by kernel_rfl)))
            have HA_HO277 := Aside0.mk (Q_HA_HO277 (hon 7 (by kernel_rfl)))
            obtain ⟨co18, eo18⟩ := HA_HO277.out
            clear HA_HO277
            subst eo18
            obtain ⟨Ao19, co19, eo19⟩ := Kd.R_slice HO274.out
            (first | subst eo19 | (injection eo19 with f1_ f2_ f3_; have f4_ := f1_.symm; have f5_ := f3_.symm; clear f1_ f2_ f3_; subst f4_; subst f5_))
            have hs20 : w'.cell? ⟨gb271, 0, none⟩ = some (.int .i64 0) := (blk_cell BK271.out 0).trans rfl
            have hfs20 := blk_frozen BK271.out 0
            have hns20_0 := NB270_271.out
            have hms20_0 := NB271_270.out
            have hs21 : w'.cell? ⟨gb271, 1, none⟩ = some (.slice none 0 0) := (blk_cell BK271.out 1).trans rfl
            have hfs21 := blk_frozen BK271.out 1
            have hns21_0 := NB270_271.out
            have hms21_0 := NB271_270.out
            have hs22 : w'.cell? ⟨gb271, 2, none⟩ = some (.string (⟨#[]⟩ : ByteArray)) := (blk_cell BK271.out 2).trans rfl
            have hfs22 := blk_frozen BK271.out 2
            have hns22_0 := NB270_271.out
            have hms22_0 := NB271_270.out
            refine skip_ (w1 := ?_) (by rfl) rfl ?_ ?_
            rotate_left
            · go_simp
              rfl
            refine hK.out _ _ ⟨.slice Ao19 t272.length co19, .slice (some adz_v276) y275.length co18, adz_v276, m11_, m13_, (by rw [ha.out]; exact putSel_none (v := undef) rfl), (by (with_reducible repeat (first | apply Kd.V_alloc | apply Kd.V_drewN | apply Kd.V_drew)); exact Kd.V_mono (Kd.V_far (p := ⟨gb271, 2, none⟩) (Kd.V_far (p := ⟨gb271, 1, none⟩) (Kd.V_far (p := ⟨gb271, 0, none⟩) (Kd.V_mono HO0_1.out (fun k_ hk => (⟨hk, by first | exact by first | exact hk.2.2.2.2 | grind | grind⟩ : _ ∧ k_ ≠ gb271))) (fun _ hk => hk.2) (.int .i64 (wrap64 (Int.tmod a0_4 12)))) (fun _ hk => hk.2) (.slice Ao19 t272.length co19)) (fun _ hk => hk.2) (.string (rdOf ByteArray.empty y275 (ji4)))) (fun _ hk => by first | exact ⟨hk.1.1, ⟨hk.1.2.1, ⟨hk.1.2.2.1, ⟨hk.1.2.2.2.1, hk.1.2.2.2.2⟩⟩⟩⟩ | grind)), (by (with_reducible repeat (first | refine blk_drewN ?_ _ | refine blk_drew ?_ | refine blk_alloc ?_ _)); refine blk_far ?_ NB270_271.out _; (with_reducible repeat (first | refine blk_drewN ?_ _ | refine blk_drew ?_ | refine blk_alloc ?_ _)); refine blk_far ?_ NB270_271.out _; (with_reducible repeat (first | refine blk_drewN ?_ _ | refine blk_drew ?_ | refine blk_alloc ?_ _)); refine blk_far ?_ NB270_271.out _; (with_reducible repeat (first | refine blk_drewN ?_ _ | refine blk_drew ?_ | refine blk_alloc ?_ _)); exact BK270.out), fun h0_ => absurd ((up_self b 14).symm.trans h0_) (by decide), (by repeat (first | (with_reducible first | exact HB.out | apply below_alloc | apply pw_below_drewN | apply below_drew1 | refine below_set ?_ GE270.out | refine below_set ?_ GE271.out) | exact HB.out)), fun _ => (by (with_reducible repeat (first | apply Kd.R_alloc | apply Kd.R_drewN | apply Kd.R_drew)); exact Kd.R_mono (Kd.R_far (p := ⟨gb271, 2, none⟩) (Kd.R_far (p := ⟨gb271, 1, none⟩) (Kd.R_far (p := ⟨gb271, 0, none⟩) (Kd.R_types HO274.out BK271.out (by decide)) (fun _ hk => hk.2) (.int .i64 (wrap64 (Int.tmod a0_4 12)))) (fun _ hk => hk.2) (.slice Ao19 t272.length co19)) (fun _ hk => hk.2) (.string (rdOf ByteArray.empty y275 (ji4)))) (fun _ hk => hk.1)), fun _ => (by (with_reducible repeat (first | apply Kd.R_alloc | apply Kd.R_drewN | apply Kd.R_drew)); exact Kd.R_mono (Kd.R_far (p := ⟨gb271, 2, none⟩) (Kd.R_far (p := ⟨gb271, 1, none⟩) (Kd.R_far (p := ⟨gb271, 0, none⟩) (Kd.R_types HO277.out BK271.out (by decide)) (fun _ hk => hk.2) (.int .i64 (wrap64 (Int.tmod a0_4 12)))) (fun _ hk => hk.2) (.slice Ao19 t272.length co19)) (fun _ hk => hk.2) (.string (rdOf ByteArray.empty y275 (ji4)))) (fun _ hk => hk.1)), fun _ => ⟨_, rfl⟩, fun _ => (by (with_reducible repeat (first | refine blk_drewN ?_ _ | refine blk_drew ?_ | refine blk_alloc ?_ _)); refine blk_put (cs := #[.int .i64 (wrap64 (Int.tmod a0_4 12)), .slice Ao19 t272.length co19, .string (⟨#[]⟩ : ByteArray)]) ?_ 2 _ rfl; (with_reducible repeat (first | refine blk_drewN ?_ _ | refine blk_drew ?_ | refine blk_alloc ?_ _)); refine blk_put (cs := #[.int .i64 (wrap64 (Int.tmod a0_4 12)), .slice none 0 0, .string (⟨#[]⟩ : ByteArray)]) ?_ 1 _ rfl; (with_reducible repeat (first | refine blk_drewN ?_ _ | refine blk_drew ?_ | refine blk_alloc ?_ _)); refine blk_put (cs := #[.int .i64 0, .slice none 0 0, .string (⟨#[]⟩ : ByteArray)]) ?_ 0 _ rfl; (with_reducible repeat (first | refine blk_drewN ?_ _ | refine blk_drew ?_ | refine blk_alloc ?_ _)); exact BK271.out), Q_X11_, Q_X13_⟩
          exact steps_nil
        rintro b a w20 hall ⟨v273, v276, adz_v276, m11_, m13_, ha, Q_HO0_1, Q_BK270, Q_BK271, Q_HB, Q_HO274, Q_HO277, Q_HA_HO277, Q_BK271_e14, Q_X11_, Q_X13_⟩
        clear BK270 BK271 HB HO0_1
        have hb1_ := hall 1 (by kernel_rfl)
        have hb2_ := hall 2 (by kernel_rfl)
        have hb3_ := hall 3 (by kernel_rfl)
        have hb5_ := hall 5 (by kernel_rfl)
        have hb6_ := hall 6 (by kernel_rfl)
        have hb7_ := hall 7 (by kernel_rfl)
        have hb9_ := hall 9 (by kernel_rfl)
        have hb10_ := hall 10 (by kernel_rfl)
        have hb11_ := hall 11 (by kernel_rfl)
        have hb12_ := hall 12 (by kernel_rfl)
        have hb13_ := hall 13 (by kernel_rfl)
        have hb14_ := hall 14 (by kernel_rfl)
        subst ha
        obtain rfl := Q_X11_ hb11_
        obtain rfl := Q_X13_ hb13_
        simp only [putSel, hb1_, hb2_, hb3_, hb5_, hb6_, hb7_, hb9_, hb10_, hb11_, hb12_, hb13_, hb14_, if_true, Act.put, List.setIfInBounds_toArray, List.set_cons_zero, List.set_cons_succ]
        have HO0_1 := Aside0.mk Q_HO0_1
        clear Q_HO0_1
        have BK270 := Aside0.mk Q_BK270
        clear Q_BK270
        clear Q_BK271
        have HB := Aside0.mk Q_HB
        clear Q_HB
        have HO274 := Aside0.mk (Q_HO274 hb6_)
        clear Q_HO274
        have HO277 := Aside0.mk (Q_HO277 hb7_)
        clear Q_HO277
        have HA_HO277 := Aside0.mk (Q_HA_HO277 hb7_)
        clear Q_HA_HO277
        have BK271 := Aside0.mk (Q_BK271_e14 hb14_)
        clear Q_BK271_e14
        clear hall hb1_ hb2_ hb3_ hb5_ hb6_ hb7_ hb9_ hb10_ hb11_ hb12_ hb13_ hb14_
        obtain ⟨co21, eo21⟩ := HA_HO277.out
        clear HA_HO277
        subst eo21
        obtain ⟨Ao22, co22, eo22⟩ := Kd.R_slice HO274.out
        (first | subst eo22 | (injection eo22 with f1_ f2_ f3_; have f4_ := f1_.symm; have f5_ := f3_.symm; clear f1_ f2_ f3_; subst f4_; subst f5_))
        try go_wp2
        refine bodyPost_ret (results_cell_row rfl _ _ gb271 26 #[.int .i64 (wrap64 (Int.tmod a0_4 12)), .slice Ao22 t272.length co22, .string (rdOf ByteArray.empty y275 (ji4))] (0, 0) _ rfl (by (with_reducible repeat (first | refine blk_drewN ?_ _ | refine blk_drew ?_ | refine blk_alloc ?_ _)); exact BK271.out) Try.underlying26 rfl (by kernel_rfl)) rfl ?_
        exact ⟨_, by first | rfl | (simp [errW_none, errW_some] <;> rfl) | (simp only [← hji4]; first | rfl | (simp [errW_none, errW_some] <;> rfl)) | (simp [*, errW_none, errW_some] <;> rfl), Kd.V_mono (Kd.R_V (by (with_reducible repeat (first | apply Kd.R_alloc | apply Kd.R_drewN | apply Kd.R_drew)); exact HO274.out)) (fun k_ hk => by first | exact ⟨(.inr (hk.1)), hk.2⟩ | exact (.inr (hk))), by repeat (first | (with_reducible first | exact HB.out | apply below_alloc | apply pw_below_drewN | apply below_drew1 | refine below_set ?_ GE270.out | refine below_set ?_ GE271.out) | exact HB.out)⟩
      · rw [if_neg c6] at H
        exact absurd H (by simp)
    · rw [if_neg c5] at H
      exact absurd H (by simp)
  · replace c2 := Bool.eq_false_iff.mpr c2
    subst c2
    have H1 : (some (a0_0, l0_1, a0_2)) = some (r1, r2, r3) := by rw [if_neg (show ¬ (false = true) by decide)] at H; exact H
    clear H
    have H := H1
    clear H1
    simp only [Option.some.injEq, Prod.mk.injEq] at H
    obtain ⟨rfl, rfl, rfl⟩ := H
    go_enter Try.func16, Try.ntmps16
    go_wp2_with (first | ((with_reducible refine gate_dst (N := 1) rfl ?_); refine box_event ?hg (N := 1) ?hd (cs := #[.int .i64 a0_0, .slice A0_1 l0_1.length c0_1, .string a0_2, .bool false, .int .i8 a0_4, .slice A0_5 l0_5.length c0_5, .int .u8 a0_6]) (t := 30) ?hr ?_; (case hd => rfl); (case hg => rfl); (case hr => first | (go_simp; done) | (go_simp; rfl)); intro gb270 hg w23 hbox hb; have n0_ := Aside0.mk (Kd.V_below (Kd.V_elderB (by (with_reducible repeat (first | apply Kd.V_alloc | apply Kd.V_drewN | apply Kd.V_drew)); exact HO0_1.out) gb270 (Nat.le_of_eq hg.symm)) hb); have n1_ := Aside0.mk (below_step (by repeat (first | (with_reducible first | exact HB.out | apply below_alloc | apply pw_below_drewN | apply below_drew1) | exact HB.out)) hb); have n2_ := Aside0.mk (hbox); have n3_ := Aside0.mk ((by rw [hg]; exact (below_size (by repeat (first | (with_reducible first | exact HB.out | apply below_alloc | apply pw_below_drewN | apply below_drew1) | exact HB.out))) : w.heap.size ≤ gb270)); have n4_ := Aside0.mk ((by rw [hg]; exact (below_size (by repeat (first | (with_reducible first | exact HB.out | apply below_alloc | apply pw_below_drewN | apply below_drew1) | exact HB.out))) : w.heap.size ≤ gb270)); clear HO0_1; clear HB; have HO0_1 := n0_; have HB := n1_; have BK270 := n2_; have GW270 := n3_; have GE270 := n4_; clear n0_ n1_ n2_ n3_ n4_; clear hb hbox hg) | ((with_reducible refine gate_dst (N := 2) rfl ?_); refine box_event ?hg (N := 2) ?hd (cs := #[.int .i64 0, .slice none 0 0, .string (⟨#[]⟩ : ByteArray)]) (t := 26) ?hr ?_; (case hd => rfl); (case hg => rfl); (case hr => first | (go_simp; done) | (go_simp; rfl)); intro gb271 hg w24 hbox hb; have n0_ := Aside0.mk (Kd.V_below (Kd.V_elderB (by (with_reducible repeat (first | apply Kd.V_alloc | apply Kd.V_drewN | apply Kd.V_drew)); exact HO0_1.out) gb271 (Nat.le_of_eq hg.symm)) hb); have n1_ := Aside0.mk (blk_below (g := gb270) (o := .cells #[.int .i64 a0_0, .slice A0_1 l0_1.length c0_1, .string a0_2, .bool false, .int .i8 a0_4, .slice A0_5 l0_5.length c0_5, .int .u8 a0_6] 30 (0, 0)) (by (with_reducible repeat (first | refine blk_drewN ?_ _ | refine blk_drew ?_ | refine blk_alloc ?_ _)); exact BK270.out) hb); have n2_ := Aside0.mk (below_step (by repeat (first | (with_reducible first | exact HB.out | apply below_alloc | apply pw_below_drewN | apply below_drew1 | refine below_set ?_ GE270.out) | exact HB.out)) hb); have n3_ := Aside0.mk (hbox); have n4_ := Aside0.mk ((by rw [hg]; exact (below_size (by repeat (first | (with_reducible first | exact HB.out | apply below_alloc | apply pw_below_drewN | apply below_drew1 | refine below_set ?_ GE270.out) | exact HB.out))) : w.heap.size ≤ gb271)); have n5_ := Aside0.mk ((by rw [hg]; exact (below_size (by repeat (first | (with_reducible first | exact HB.out | apply below_alloc | apply pw_below_drewN | apply below_drew1 | refine below_set ?_ GE270.out) | exact HB.out))) : w.heap.size ≤ gb271)); have n6_ := Aside0.mk ((by rw [hg]; exact Nat.ne_of_lt (blk_lt (g := gb270) (o := .cells #[.int .i64 a0_0, .slice A0_1 l0_1.length c0_1, .string a0_2, .bool false, .int .i8 a0_4, .slice A0_5 l0_5.length c0_5, .int .u8 a0_6] 30 (0, 0)) (by (with_reducible repeat (first | refine blk_drewN ?_ _ | refine blk_drew ?_ | refine blk_alloc ?_ _)); exact BK270.out)) : gb270 ≠ gb271)); have n7_ := Aside0.mk ((by rw [hg]; exact Nat.ne_of_gt (blk_lt (g := gb270) (o := .cells #[.int .i64 a0_0, .slice A0_1 l0_1.length c0_1, .string a0_2, .bool false, .int .i8 a0_4, .slice A0_5 l0_5.length c0_5, .int .u8 a0_6] 30 (0, 0)) (by (with_reducible repeat (first | refine blk_drewN ?_ _ | refine blk_drew ?_ | refine blk_alloc ?_ _)); exact BK270.out)) : gb271 ≠ gb270)); clear HO0_1; clear BK270; clear HB; have HO0_1 := n0_; have BK270 := n1_; have HB := n2_; have BK271 := n3_; have GW271 := n4_; have GE271 := n5_; have NB270_271 := n6_; have NB271_270 := n7_; clear n0_ n1_ n2_ n3_ n4_ n5_ n6_ n7_; clear hb hbox hg; have hnb25 := NB270_271.out; have hnc25 := NB271_270.out; have hcz26_0 : w24.cell? ⟨gb270, 0, none⟩ = some (.int .i64 a0_0) := (blk_cell BK270.out 0).trans rfl; have hcz26_1 : w24.cell? ⟨gb270, 1, none⟩ = some (.slice A0_1 l0_1.length c0_1) := (blk_cell BK270.out 1).trans rfl; have hcz26_2 : w24.cell? ⟨gb270, 2, none⟩ = some (.string a0_2) := (blk_cell BK270.out 2).trans rfl; have hcz26_3 : w24.cell? ⟨gb270, 3, none⟩ = some (.bool false) := (blk_cell BK270.out 3).trans rfl; have hcz26_4 : w24.cell? ⟨gb270, 4, none⟩ = some (.int .i8 a0_4) := (blk_cell BK270.out 4).trans rfl; have hcz26_5 : w24.cell? ⟨gb270, 5, none⟩ = some (.slice A0_5 l0_5.length c0_5) := (blk_cell BK270.out 5).trans rfl; have hcz26_6 : w24.cell? ⟨gb270, 6, none⟩ = some (.int .u8 a0_6) := (blk_cell BK270.out 6).trans rfl; have hfz26_0 := blk_frozen BK270.out 0; have hfz26_1 := blk_frozen BK270.out 1; have hfz26_2 := blk_frozen BK270.out 2; have hfz26_3 := blk_frozen BK270.out 3; have hfz26_4 := blk_frozen BK270.out 4; have hfz26_5 := blk_frozen BK270.out 5; have hfz26_6 := blk_frozen BK270.out 6; have hcz27_0 : w24.cell? ⟨gb271, 0, none⟩ = some (.int .i64 0) := (blk_cell BK271.out 0).trans rfl; have hcz27_1 : w24.cell? ⟨gb271, 1, none⟩ = some (.slice none 0 0) := (blk_cell BK271.out 1).trans rfl; have hcz27_2 : w24.cell? ⟨gb271, 2, none⟩ = some (.string (⟨#[]⟩ : ByteArray)) := (blk_cell BK271.out 2).trans rfl; have hfz27_0 := blk_frozen BK271.out 0; have hfz27_1 := blk_frozen BK271.out 1; have hfz27_2 := blk_frozen BK271.out 2))
    refine bodyPost_ret (results_cell_row rfl _ _ gb271 26 #[.int .i64 a0_0, .slice A0_1 l0_1.length c0_1, .string a0_2] (0, 0) _ rfl (by (with_reducible repeat (first | refine blk_drewN ?_ _ | refine blk_drew ?_ | refine blk_alloc ?_ _)); refine blk_put (cs := #[.int .i64 a0_0, .slice A0_1 l0_1.length c0_1, .string (⟨#[]⟩ : ByteArray)]) ?_ 2 _ rfl; (with_reducible repeat (first | refine blk_drewN ?_ _ | refine blk_drew ?_ | refine blk_alloc ?_ _)); refine blk_put (cs := #[.int .i64 a0_0, .slice none 0 0, .string (⟨#[]⟩ : ByteArray)]) ?_ 1 _ rfl; (with_reducible repeat (first | refine blk_drewN ?_ _ | refine blk_drew ?_ | refine blk_alloc ?_ _)); refine blk_put (cs := #[.int .i64 0, .slice none 0 0, .string (⟨#[]⟩ : ByteArray)]) ?_ 0 _ rfl; (with_reducible repeat (first | refine blk_drewN ?_ _ | refine blk_drew ?_ | refine blk_alloc ?_ _)); exact BK271.out) Try.underlying26 rfl (by kernel_rfl)) rfl ?_
    exact ⟨_, by first | rfl | (simp [errW_none, errW_some] <;> rfl) | (simp [*, errW_none, errW_some] <;> rfl), by (with_reducible repeat (first | apply Kd.V_alloc | apply Kd.V_drewN | apply Kd.V_drew)); exact Kd.V_mono (Kd.V_far (p := ⟨gb271, 2, none⟩) (Kd.V_far (p := ⟨gb271, 1, none⟩) (Kd.V_far (p := ⟨gb271, 0, none⟩) (Kd.V_mono HO0_1.out (fun k_ hk => (⟨hk, by first | exact by first | exact hk.2 | grind | grind⟩ : _ ∧ k_ ≠ gb271))) (fun _ hk => hk.2) (.int .i64 a0_0)) (fun _ hk => hk.2) (.slice A0_1 l0_1.length c0_1)) (fun _ hk => hk.2) (.string a0_2)) (fun _ hk => hk.1.1.1), by repeat (first | (with_reducible first | exact HB.out | apply below_alloc | apply pw_below_drewN | apply below_drew1 | refine below_set ?_ GE270.out | refine below_set ?_ GE271.out) | exact HB.out)⟩

/-! ### archivistlaw16_items: function 10 -/
def archivistlaw16_items.l0 : Nat → List (S30) → Int → List (S26) → Int → Option ((List (S26)))
  | 0, _, _, _, _ => none
  | k + 1, x0, x1, x5, x6 => if x6 < (x0.length : Int) then (if x6 < x1 then (if 0 ≤ x6 then ((archivistlaw16_Item_item.f k ((rd_T30 x0 x6).f0.f0) ((rd_T30 x0 x6).f0.f1) ((rd_T30 x0 x6).f0.f2) ((rd_T30 x0 x6).f1) ((rd_T30 x0 x6).f2) ((rd_T30 x0 x6).f3) ((rd_T30 x0 x6).f4)).bind fun bt280 => (if x5.length < 2932031007402 then (archivistlaw16_items.l0 k x0 x1 (x5 ++ [(⟨bt280.1, bt280.2.1, bt280.2.2⟩ : S26)]) (wrap64 (x6 + 1))) else (none))) else (none)) else (some x5)) else (some x5)
def archivistlaw16_items.f (k : Nat) (l0 : List (S30)) (a1 : Int) : Option ((List (S26))) := archivistlaw16_items.l0 k l0 a1 ([] : List (S26)) 0
theorem archivistlaw16_items.mono_l : ∀ k, (∀ y0 y1 y2 y3, LeO (archivistlaw16_items.l0 k y0 y1 y2 y3) (archivistlaw16_items.l0 (k + 1) y0 y1 y2 y3))
  | 0 => fun _ _ _ _ r h => by simp [archivistlaw16_items.l0] at h
  | k + 1 => by
    have ih0 := archivistlaw16_items.mono_l k
    · intro y0 y1 y2 y3
      unfold archivistlaw16_items.l0
      repeat' first
      | (with_reducible exact ih0 _ _ _ _)
      | (with_reducible exact archivistlaw16_Item_item.mono _ _ _ _ _ _ _ _)
      | (with_reducible exact LeO.refl _)
      | (with_reducible exact LeO.none _)
      | (with_reducible refine LeO.ite ?_ ?_)
      | (with_reducible refine LeO.bind ?_ (fun _ => ?_))
      | exact ih0 _ _ _ _
      | exact archivistlaw16_Item_item.mono _ _ _ _ _ _ _ _
      | exact LeO.none _
      | refine LeO.ite ?_ ?_
      | refine LeO.bind ?_ (fun _ => ?_)
theorem archivistlaw16_items.mono : ∀ a0 a1 k, LeO (archivistlaw16_items.f k a0 a1) (archivistlaw16_items.f (k + 1) a0 a1) := by
  intro a0 a1 k
  have ih0 := archivistlaw16_items.mono_l k
  unfold archivistlaw16_items.f
  repeat' first
      | (with_reducible exact ih0 _ _ _ _)
      | (with_reducible exact archivistlaw16_Item_item.mono _ _ _ _ _ _ _ _)
      | (with_reducible exact LeO.refl _)
      | (with_reducible exact LeO.none _)
      | (with_reducible refine LeO.ite ?_ ?_)
      | (with_reducible refine LeO.bind ?_ (fun _ => ?_))
      | exact ih0 _ _ _ _
      | exact archivistlaw16_Item_item.mono _ _ _ _ _ _ _ _
      | exact LeO.none _
      | refine LeO.ite ?_ ?_
      | refine LeO.bind ?_ (fun _ => ?_)
set_option maxHeartbeats 8000000 in
set_option maxRecDepth 100000 in
theorem archivistlaw16_items.calls (k : Nat) (P0_ : Nat → Prop) (A0 : Option Addr) (c0 : Nat) (l0 : List (S30)) (a1 : Int) (r : List (S26)) (w : World) (hs0 : Kd.V k30 30 w w.heap.size (fun k_ => P0_ k_) (.slice A0 l0.length c0) l0) (h : archivistlaw16_items.f k l0 a1 = some r) :
    Calls Try.prog 10 #[.slice A0 l0.length c0, .int .i64 a1] w fun e w' => ∃ v0_ : Value, e = .returned (v0_) ∧ Kd.N k26 26 w' w.heap.size (fun k_ => (P0_ k_ ∨ w.heap.size ≤ k_)) v0_ r ∧ Below w.heap.size w w' := by
  have hu30 := Try.underlying30
  have HO0 := Aside0.mk (show Kd.V k30 30 w w.heap.size (fun k_ => (P0_ k_ ∨ w.heap.size ≤ k_)) (.slice A0 l0.length c0) l0 from Kd.V_mono hs0 (fun k_ hk => .inl hk))
  have HB := Aside0.mk (Below.refl w.heap.size w)
  have H : (archivistlaw16_items.l0 k l0 a1 ([] : List (S26)) 0) = some r := h
  clear h
  have H' := Aside0.mk H
  clear H
  go_enter Try.func10, Try.ntmps10
  go_wp2
  go_loopg [5, 6] k (fun kq v5 v6 w' => ∃ (x5_1 : List (S26)) (x6_1 : Int), v6 = .int .i64 x6_1 ∧ Aside0 (archivistlaw16_items.l0 kq l0 a1 x5_1 x6_1 = some r) ∧ Aside0 (kq ≤ k) ∧ Aside0 (Kd.V k30 30 w' w.heap.size (fun k_ => (P0_ k_ ∨ w.heap.size ≤ k_) ∧ some k_ ≠ (v5 : Value).ownBlock) (.slice A0 l0.length c0) l0) ∧ Aside0 (Kd.N k26 26 w' w.heap.size (fun k_ => (P0_ k_ ∨ w.heap.size ≤ k_)) v5 x5_1) ∧ Aside0 (Below w.heap.size w w'))
  case atStart => exact ⟨(([] : List (S26))), (0), (by first | rfl | (simp; done) | (simp [*]; done)), H', ⟨Nat.le_refl _⟩, ⟨by (with_reducible repeat (first | apply Kd.V_alloc | apply Kd.V_drewN | apply Kd.V_drew)); exact Kd.V_mono HO0.out (fun _ hk => by first | exact ⟨hk, (by simp [Value.ownBlock])⟩ | grind)⟩, ⟨by first | exact Kd.S_nil _ _ _ _ _ | exact Kd.N_nil _ _ _ _ _ | exact Kd.V_nil _ _ _ _ _ | exact Kd.Q_nil _ _ _ _ _ | exact Kd.R_nil _ _ _ _ _⟩, ⟨by repeat (first | (with_reducible first | exact HB.out | apply below_alloc | apply pw_below_drewN | apply below_drew1) | exact HB.out)⟩⟩
  case round =>
    clear H'
    try clear c1
    try clear p2
    obtain ⟨x5_1, x6_1, rfl, HA, HK1, HO_0, HO_5, HB⟩ := hrel
    cases gk with
    | zero => exact absurd HA.out (by simp [archivistlaw16_items.l0])
    | succ k1 =>
      have H := HA.out
      clear HA
      simp only [archivistlaw16_items.l0] at H
      by_cases c3 : x6_1 < (l0.length : Int)
      · rw [if_pos c3] at H
        have c3b0 : decide (x6_1 < (l0.length : Int)) = true := decide_eq_true c3
        clear c3
        by_cases c4 : x6_1 < a1
        · rw [if_pos c4] at H
          have c4b0 : decide (x6_1 < a1) = true := decide_eq_true c4
          clear c4
          by_cases c5 : 0 ≤ x6_1
          · rw [if_pos c5] at H
            have c5b0 : decide (0 ≤ x6_1) = true := decide_eq_true c5
            clear c5
            replace H := Option.bind_eq_some_iff.mp H
            obtain ⟨⟨t280, t281, t284⟩, A60, H⟩ := H
            replace H : (if x5_1.length < 2932031007402 then (archivistlaw16_items.l0 k1 l0 a1 (x5_1 ++ [(⟨t280, t281, t284⟩ : S26)]) (wrap64 (x6_1 + 1))) else (none)) = some r := H
            have A6 := Aside0.mk A60
            clear A60
            by_cases c7 : x5_1.length < 2932031007402
            · rw [if_pos c7] at H
              have LMc7 := Aside0.mk c7
              clear c7
              obtain ⟨y285, hy285⟩ : ∃ y_ : List (S26), y_ = (x5_1 ++ [(⟨t280, t281, t284⟩ : S26)]) := ⟨_, rfl⟩
              replace H : (archivistlaw16_items.l0 k1 l0 a1 y285 (wrap64 (x6_1 + 1))) = some r := by first | (rw [hy285]; with_reducible exact H) | (have H2_ := (Option.bind_some _ _).symm.trans H; rw [hy285]; with_reducible exact H2_) | (have H2_ := (Option.bind_some _ _).symm.trans H; with_reducible exact H2_) | with_reducible exact H | (rw [hy285]; exact H) | exact H
              have Ny285 := Aside0.mk hy285
              clear hy285
              have H' := Aside0.mk H
              clear H
              have p279 : 0 ≤ (x6_1 : Int) := of_decide_eq_true (by first | (with_reducible assumption) | assumption)
              have q279 : x6_1 < (l0.length : Int) := of_decide_eq_true (by first | (with_reducible assumption) | assumption)
              obtain ⟨ad279, A279_1, c279_1, A279_5, c279_5, e279, hx279_0, hx279_1, hx279_2, hx279_3, hx279_4, hx279_5, hx279_6, hl279_1, hi279_1, hl279_5, hi279_5⟩ := at_T30 (Kd.V_reads' HO_0.out).2.2 x6_1 p279 q279
              cases e279
              obtain ⟨ce279, hce279, hMe279, hcc279⟩ := Kd.V_get HO_0.out z30 x6_1 p279 (by first | exact q279 | exact of_decide_eq_true (by first | (with_reducible assumption) | assumption) | (have e_ := (Kd.V_reads' HO_0.out).1; omega))
              obtain ⟨ua279_1, uc279_1, ua279_5, uc279_5, rfl, ul279_1, ge279_1, ul279_5, ge279_5⟩ := k30_openF hMe279
              have hv279_1 := hcc279 1 _ rfl
              rw [add_field _ _ 1 (by omega)] at hv279_1
              replace hv279_1 := Option.some.inj (hv279_1.symm.trans hx279_1)
              injection hv279_1 with hva_ hvn_ hvc_
              rw [hva_] at ge279_1
              rw [hvc_] at ul279_1
              have HL279_1 := Aside0.mk (show Kd.V k103 103 _ w.heap.size _ _ ((rd_T30 l0 x6_1).f0.f1) from Kd.V_mk ul279_1 ge279_1)
              clear hva_ hvn_ hvc_ ge279_1 ul279_1
              have hv279_5 := hcc279 5 _ rfl
              rw [add_field _ _ 5 (by omega)] at hv279_5
              replace hv279_5 := Option.some.inj (hv279_5.symm.trans hx279_5)
              injection hv279_5 with hva_ hvn_ hvc_
              rw [hva_] at ge279_5
              rw [hvc_] at ul279_5
              have HL279_5 := Aside0.mk (show Kd.V k105 105 _ w.heap.size _ _ ((rd_T30 l0 x6_1).f3) from Kd.V_mk ul279_5 ge279_5)
              clear hva_ hvn_ hvc_ ge279_5 ul279_5
              clear hcc279 hce279
              have HR279_1 := Aside0.mk hi279_1
              have HC279_1 := Aside0.mk hl279_1
              clear hi279_1 hl279_1
              have HR279_5 := Aside0.mk hi279_5
              have HC279_5 := Aside0.mk hl279_5
              clear hi279_5 hl279_5
              replace p279 := eq_true p279
              replace q279 := eq_true q279
              go_wp2_with (first | ((with_reducible refine gate_callee (f := 16) rfl ?_); refine goesL_ (some 23) rfl rfl Try.func16 (by kernel_rfl) rfl #[.agg #[.int .i64 ((rd_T30 l0 x6_1).f0.f0), .slice A279_1 ((rd_T30 l0 x6_1).f0.f1).length c279_1, .string ((rd_T30 l0 x6_1).f0.f2), .bool ((rd_T30 l0 x6_1).f1), .int .i8 ((rd_T30 l0 x6_1).f2), .slice A279_5 ((rd_T30 l0 x6_1).f3).length c279_5, .int .u8 ((rd_T30 l0 x6_1).f4)]] rfl (by (try simp only [List.map_toArray, List.map_cons, List.map_nil]); first | done | rfl | (simp only [List.length_drop, List.length_take]; rfl)) ?_; (with_reducible refine (archivistlaw16_Item_item.calls k1 ((rd_T30 l0 x6_1).f0.f0) (fun k_ => ((P0_ k_ ∨ w.heap.size ≤ k_) ∧ some k_ ≠ (u5 : Value).ownBlock)) _ _ ((rd_T30 l0 x6_1).f0.f1) ((rd_T30 l0 x6_1).f0.f2) ((rd_T30 l0 x6_1).f1) ((rd_T30 l0 x6_1).f2) _ _ ((rd_T30 l0 x6_1).f3) ((rd_T30 l0 x6_1).f4) t280 t281 t284 _ ?side1 ?side2 ?side3 A6.out).mono ?_); (case side1 => exact HL279_1.out); (case side2 => repeat (first | exact (by repeat (first | (with_reducible exact HR279_5.out) | (with_reducible refine Kd.C_alloc ?_ _) | (with_reducible refine Kd.C_drewN ?_ _) | (with_reducible refine Kd.C_drew ?_) | exact HR279_5.out)) | (with_reducible refine Kd.C_alloc ?_ _) | (with_reducible refine Kd.C_drewN ?_ _) | (with_reducible refine Kd.C_drew ?_))); (case side3 => exact HC279_5.out); rintro e w8 ⟨v282, rfl, ho0, hb⟩; refine ⟨_, rfl, ?_⟩; have n0_ := Aside0.mk (Kd.V_below (by (with_reducible repeat (first | apply Kd.V_alloc | apply Kd.V_drewN | apply Kd.V_drew)); exact HO_0.out) hb); have n1_ := Aside0.mk (Kd.N_below (by (with_reducible repeat (first | apply Kd.N_alloc | apply Kd.N_drewN | apply Kd.N_drew)); exact HO_5.out) hb); have n2_ := Aside0.mk (Kd.V_below (by (with_reducible repeat (first | apply Kd.V_alloc | apply Kd.V_drewN | apply Kd.V_drew)); exact HL279_1.out) hb); have n3_ := Aside0.mk (Kd.V_below (by (with_reducible repeat (first | apply Kd.V_alloc | apply Kd.V_drewN | apply Kd.V_drew)); exact HL279_5.out) hb); have n4_ := Aside0.mk (Kd.V_lower (Kd.V_mono (ok' := fun k_ => (P0_ k_ ∨ w.heap.size ≤ k_) ∧ some k_ ≠ (u5 : Value).ownBlock) ho0 (fun k_ hk_ => ⟨Or.elim hk_ (fun hs_ => hs_.1) (fun hn_ => (.inr (Nat.le_trans (below_size (by repeat (first | (with_reducible first | exact HB.out | apply below_alloc | apply pw_below_drewN | apply below_drew1) | exact HB.out))) hn_))), Or.elim hk_ (fun hs_ => hs_.2) (fun hn_ => (Kd.fresh' (Kd.N_lt (by (with_reducible repeat (first | apply Kd.N_alloc | apply Kd.N_drewN | apply Kd.N_drew)); exact HO_5.out)) k_ hn_))⟩)) (below_size (by repeat (first | (with_reducible first | exact HB.out | apply below_alloc | apply pw_below_drewN | apply below_drew1) | exact HB.out)))); have n5_ := Aside0.mk (Kd.C_below (by repeat (first | (with_reducible exact HR279_1.out) | (with_reducible refine Kd.C_alloc ?_ _) | (with_reducible refine Kd.C_drewN ?_ _) | (with_reducible refine Kd.C_drew ?_) | exact HR279_1.out)) hb); have n6_ := Aside0.mk (Kd.C_below (by repeat (first | (with_reducible exact HR279_5.out) | (with_reducible refine Kd.C_alloc ?_ _) | (with_reducible refine Kd.C_drewN ?_ _) | (with_reducible refine Kd.C_drew ?_) | exact HR279_5.out)) hb); have n7_ := Aside0.mk (below_step (by repeat (first | (with_reducible first | exact HB.out | apply below_alloc | apply pw_below_drewN | apply below_drew1) | exact HB.out)) hb); clear HO_0; clear HO_5; clear HL279_1; clear HL279_5; clear HR279_1; clear HR279_5; clear HB; have HO_0 := n0_; have HO_5 := n1_; have HL279_1 := n2_; have HL279_5 := n3_; have HO283 := n4_; have HR279_1 := n5_; have HR279_5 := n6_; have HB := n7_; clear n0_ n1_ n2_ n3_ n4_ n5_ n6_ n7_; (try clear hb); (try clear hb2); (try clear hk); (try clear hi); (try clear ho0); obtain ⟨Ao10, co10, eo10⟩ := Kd.V_slice HO283.out; subst eo10) | ((with_reducible refine gate_builtin (b := .append) (xs := #[.tmp 18, .tmp 24]) rfl ?_); at_builtin; refine Kd.N_append k26 (w0 := w) w.heap.size rfl (.tmp 18) (.tmp 24) 34 26 (.agg #[(.int .i64 0), (.slice none 0 0), (.string ⟨#[]⟩)]) 48 rfl Try.underlying34 info26 rfl (by decide) (by omega) u5 x5_1 (⟨t280, t281, t284⟩ : S26) [.int .i64 t280, .slice Ao10 t281.length co10, .string t284] (fun k_ => (P0_ k_ ∨ w.heap.size ≤ k_)) (fun k_ => ((fun k_ => (P0_ k_ ∨ w.heap.size ≤ k_))) k_ ∧ some k_ ≠ (u5 : Value).ownBlock) rfl rfl ?aP (fun _ hk => hk) ?aF ?aO ?aB ?aS ?aL ?_; (case aP => exact (k26_mkF _ _ (⟨t280, t281, t284⟩ : S26) (Kd.V_reads' (Kd.V_mono (ok' := (fun k_ => ((fun k_ => (P0_ k_ ∨ w.heap.size ≤ k_))) k_ ∧ some k_ ≠ (u5 : Value).ownBlock)) (HO283.out) (fun k_ hk => ⟨hk.1, hk.2⟩))).2.1 (Kd.V_F (Kd.V_mono (ok' := (fun k_ => ((fun k_ => (P0_ k_ ∨ w.heap.size ≤ k_))) k_ ∧ some k_ ≠ (u5 : Value).ownBlock)) (HO283.out) (fun k_ hk => ⟨hk.1, hk.2⟩))))); (case aB => exact (by repeat (first | (with_reducible first | exact HB.out | apply below_alloc | apply pw_below_drewN | apply below_drew1) | exact HB.out))); (case aF => exact (fun k_ hk => (.inr (Nat.le_trans (below_size (by repeat (first | (with_reducible first | exact HB.out | apply below_alloc | apply pw_below_drewN | apply below_drew1) | exact HB.out))) hk)))); (case aO => exact (by (with_reducible repeat (first | apply Kd.N_alloc | apply Kd.N_drewN | apply Kd.N_drew)); exact HO_5.out)); (case aS => exact (below_size (by repeat (first | (with_reducible first | exact HB.out | apply below_alloc | apply pw_below_drewN | apply below_drew1) | exact HB.out)))); (case aL => have := LMc7.out; omega); intro v286 w9 ho hb hg hat; rw [← Ny285.out] at ho; have n0_ := Aside0.mk (Kd.V_afterv (ok := (fun k_ => (P0_ k_ ∨ w.heap.size ≤ k_))) (by (with_reducible repeat (first | apply Kd.V_alloc | apply Kd.V_drewN | apply Kd.V_drew)); exact HO_0.out) hg hat); have n1_ := Aside0.mk (Kd.V_afterv (ok := (fun k_ => (P0_ k_ ∨ w.heap.size ≤ k_))) (by (with_reducible repeat (first | apply Kd.V_alloc | apply Kd.V_drewN | apply Kd.V_drew)); exact HL279_1.out) hg hat); have n2_ := Aside0.mk (Kd.V_afterv (ok := (fun k_ => (P0_ k_ ∨ w.heap.size ≤ k_))) (by (with_reducible repeat (first | apply Kd.V_alloc | apply Kd.V_drewN | apply Kd.V_drew)); exact HL279_5.out) hg hat); have n3_ := Aside0.mk (Kd.V_afterv (ok := (fun k_ => (P0_ k_ ∨ w.heap.size ≤ k_))) (by (with_reducible repeat (first | apply Kd.V_alloc | apply Kd.V_drewN | apply Kd.V_drew)); exact HO283.out) hg hat); have n4_ := Aside0.mk (hb); have n5_ := Aside0.mk (ho); clear HO_0; clear HL279_1; clear HL279_5; clear HO283; clear HB; clear HO_5; have HO_0 := n0_; have HL279_1 := n1_; have HL279_5 := n2_; have HO283 := n3_; have HB := n4_; have HO287 := n5_; clear n0_ n1_ n2_ n3_ n4_ n5_; clear ho hb hg hat))
              go_roundg k1
              case measure => have := HK1.out; omega
              case rel => exact ⟨(y285), (wrap64 (x6_1 + 1)), (by first | rfl | (simp; done) | (simp [*]; done)), H', ⟨by have := HK1.out; omega⟩, ⟨by (with_reducible repeat (first | apply Kd.V_alloc | apply Kd.V_drewN | apply Kd.V_drew)); exact HO_0.out⟩, ⟨by (with_reducible repeat (first | apply Kd.N_alloc | apply Kd.N_drewN | apply Kd.N_drew)); exact HO287.out⟩, ⟨by repeat (first | (with_reducible first | exact HB.out | apply below_alloc | apply pw_below_drewN | apply below_drew1) | exact HB.out)⟩⟩
            · rw [if_neg c7] at H
              exact absurd H (by simp)
          · rw [if_neg c5] at H
            exact absurd H (by simp)
        · rw [if_neg c4] at H
          have c4b0 : decide (x6_1 < a1) = false := decide_eq_false c4
          clear c4
          obtain rfl := Option.some.inj H
          go_wp2
          go_ret
          exact ⟨_, by first | rfl | (simp [errW_none, errW_some] <;> rfl) | (simp [*, errW_none, errW_some] <;> rfl), by (with_reducible repeat (first | apply Kd.N_alloc | apply Kd.N_drewN | apply Kd.N_drew)); exact HO_5.out, by repeat (first | (with_reducible first | exact HB.out | apply below_alloc | apply pw_below_drewN | apply below_drew1) | exact HB.out)⟩
      · rw [if_neg c3] at H
        have c3b0 : decide (x6_1 < (l0.length : Int)) = false := decide_eq_false c3
        clear c3
        obtain rfl := Option.some.inj H
        go_wp2
        go_ret
        exact ⟨_, by first | rfl | (simp [errW_none, errW_some] <;> rfl) | (simp [*, errW_none, errW_some] <;> rfl), by (with_reducible repeat (first | apply Kd.N_alloc | apply Kd.N_drewN | apply Kd.N_drew)); exact HO_5.out, by repeat (first | (with_reducible first | exact HB.out | apply below_alloc | apply pw_below_drewN | apply below_drew1) | exact HB.out)⟩

end Go.Proofs.Ytaehlbbjbeibfaa.X
