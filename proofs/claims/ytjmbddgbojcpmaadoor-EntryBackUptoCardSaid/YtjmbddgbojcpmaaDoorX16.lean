-- Laid by xprint.py, a program of this session's, out of the translation.
import Derived.Test.YtjmbddgbojcpmaaDoorX0
import Derived.Test.YtjmbddgbojcpmaaDoorX15
namespace Go.Proofs.YtjmbddgbojcpmaaDoor.X
open Go.RowKit Go.Proofs.YtjmbddgbojcpmaaDoorW.PrintWords Go.Proofs.YtjmbddgbojcpmaaDoorW.PrintLast Go.Proofs.YtjmbddgbojcpmaaDoorW.PrintMore
attribute [local go_sem] max2_int min2_int max_two min_two max_three min_three max_four min_four x_isSome x_str_gtr x_str_leq x_str_geq   -- for this text's walks alone
set_option linter.unusedVariables false
set_option linter.unusedSimpArgs false

/-! ### archivistlaw13_Item_item: function 8 -/
def archivistlaw13_Item_item.f (k : Nat) (a0_0 : Int) (l0_1 : List (S48)) (a0_2 : ByteArray) (a0_3 : Bool) (a0_4 : Int) (l0_5 : List (S71)) (a0_6 : Int) : Option (Int × (List (S48)) × ByteArray) := if a0_3 = true then ((archivistlaw13_few2.f k l0_5).bind fun t306 => ((some (([(⟨#[97]⟩ : ByteArray), (⟨#[98]⟩ : ByteArray), (⟨#[110, 61, 55]⟩ : ByteArray), (⟨#[108, 118, 108, 61, 98, 32, 110, 61, 51]⟩ : ByteArray), (⟨#[120, 49]⟩ : ByteArray), (⟨#[]⟩ : ByteArray), (⟨#[100, 117, 114, 61, 53, 109]⟩ : ByteArray), (⟨#[101, 114, 114, 111, 114, 58, 32, 97]⟩ : ByteArray)] : List ByteArray) : List ByteArray)).bind fun y309 => (if 0 ≤ (Int.tmod a0_6 8) then (if (Int.tmod a0_6 8) < (y309.length : Int) then (some (wrap64 (Int.tmod a0_4 12), t306, rdOf ByteArray.empty y309 (Int.tmod a0_6 8))) else (none)) else (none)))) else (some (a0_0, l0_1, a0_2))
theorem archivistlaw13_Item_item.mono : ∀ a0 a1 a2 a3 a4 a5 a6 k, LeO (archivistlaw13_Item_item.f k a0 a1 a2 a3 a4 a5 a6) (archivistlaw13_Item_item.f (k + 1) a0 a1 a2 a3 a4 a5 a6) := by
 intro a0 a1 a2 a3 a4 a5 a6 k
 unfold archivistlaw13_Item_item.f
 repeat' first
   | (with_reducible exact archivistlaw13_few2.mono _ _)
   | (with_reducible exact LeO.refl _)
   | (with_reducible exact LeO.none _)
   | (with_reducible refine LeO.ite ?_ ?_)
   | (with_reducible refine LeO.bind ?_ (fun _ => ?_))
   | exact archivistlaw13_few2.mono _ _
   | exact LeO.none _
   | refine LeO.ite ?_ ?_
   | refine LeO.bind ?_ (fun _ => ?_)
def archivistlaw13_Item_item.T3 : Bool × List (List Nat × List Nat) := (true, [([], []), ([0], [0]), ([1], [1]), ([2], [2]), ([], []), ([4], [4]), ([5], [5]), ([], []), ([], []), ([8], [8]), ([9], [9]), ([7, 10], [7, 10]), ([11], [11]), ([3, 6, 12], [3, 6, 12]), ([13, 6, 0, 1, 2, 3, 4, 5, 6, 7, 8, 9, 10, 11, 12, 13], [13])])
def archivistlaw13_Item_item.B3 : List Nat := [0, 1, 3, 7, 0, 16, 48, 0, 0, 256, 768, 1920, 3968, 8191, 16383]
theorem archivistlaw13_Item_item.tab3 : rtab .any (opsOf Tryd.f8 3) = archivistlaw13_Item_item.T3 := by kernel_rfl
theorem archivistlaw13_Item_item.bits3 : waitsOk archivistlaw13_Item_item.T3.2 archivistlaw13_Item_item.B3 = true := by kernel_rfl
set_option maxHeartbeats 8000000 in
set_option maxRecDepth 100000 in
theorem archivistlaw13_Item_item.calls (k : Nat) (a0_0 : Int) (P0_1_ : Nat → Prop) (A0_1 : Option Addr) (c0_1 : Nat) (l0_1 : List (S48)) (a0_2 : ByteArray) (a0_3 : Bool) (a0_4 : Int) (A0_5 : Option Addr) (c0_5 : Nat) (l0_5 : List (S71)) (a0_6 : Int) (r1 : Int) (r2 : List (S48)) (r3 : ByteArray) (w : World) (hs0_1 : Kd.V k48 48 w w.heap.size (fun k_ => P0_1_ k_) (.slice A0_1 l0_1.length c0_1) l0_1) (hr0_5 : Kd.C k71 w A0_5 l0_5.length l0_5) (hc0_5 : l0_5.length ≤ c0_5) (h : archivistlaw13_Item_item.f k a0_0 l0_1 a0_2 a0_3 a0_4 l0_5 a0_6 = some (r1, r2, r3)) :
  Calls Tryd.prog 8 #[.agg #[.int .i64 a0_0, .slice A0_1 l0_1.length c0_1, .string a0_2, .bool a0_3, .int .i8 a0_4, .slice A0_5 l0_5.length c0_5, .int .u8 a0_6]] w fun e w' => ∃ v1_ : Value, e = .returned (.agg #[.int .i64 r1, v1_, .string r3]) ∧ Kd.V k48 48 w' w.heap.size (fun k_ => (P0_1_ k_ ∨ w.heap.size ≤ k_)) v1_ r2 ∧ Below w.heap.size w w' := by
 have hu29 := Tryd.underlying29
 have hu25 := Tryd.underlying25
 have HO0_1 := Aside0.mk (show Kd.V k48 48 w w.heap.size (fun k_ => (P0_1_ k_ ∨ w.heap.size ≤ k_)) (.slice A0_1 l0_1.length c0_1) l0_1 from Kd.V_mono hs0_1 (fun k_ hk => .inl hk))
 have HR0_5 := Aside0.mk hr0_5
 have HC0_5 := Aside0.mk hc0_5
 clear hr0_5 hc0_5
 have HB := Aside0.mk (Below.refl w.heap.size w)
 have H : (if a0_3 = true then ((archivistlaw13_few2.f k l0_5).bind fun t306 => ((some (([(⟨#[97]⟩ : ByteArray), (⟨#[98]⟩ : ByteArray), (⟨#[110, 61, 55]⟩ : ByteArray), (⟨#[108, 118, 108, 61, 98, 32, 110, 61, 51]⟩ : ByteArray), (⟨#[120, 49]⟩ : ByteArray), (⟨#[]⟩ : ByteArray), (⟨#[100, 117, 114, 61, 53, 109]⟩ : ByteArray), (⟨#[101, 114, 114, 111, 114, 58, 32, 97]⟩ : ByteArray)] : List ByteArray) : List ByteArray)).bind fun y309 => (if 0 ≤ (Int.tmod a0_6 8) then (if (Int.tmod a0_6 8) < (y309.length : Int) then (some (wrap64 (Int.tmod a0_4 12), t306, rdOf ByteArray.empty y309 (Int.tmod a0_6 8))) else (none)) else (none)))) else (some (a0_0, l0_1, a0_2))) = some (r1, r2, r3) := h
 clear h
 by_cases c2 : a0_3 = true
 ·subst c2
  have H1 : ((archivistlaw13_few2.f k l0_5).bind fun t306 => ((some (([(⟨#[97]⟩ : ByteArray), (⟨#[98]⟩ : ByteArray), (⟨#[110, 61, 55]⟩ : ByteArray), (⟨#[108, 118, 108, 61, 98, 32, 110, 61, 51]⟩ : ByteArray), (⟨#[120, 49]⟩ : ByteArray), (⟨#[]⟩ : ByteArray), (⟨#[100, 117, 114, 61, 53, 109]⟩ : ByteArray), (⟨#[101, 114, 114, 111, 114, 58, 32, 97]⟩ : ByteArray)] : List ByteArray) : List ByteArray)).bind fun y309 => (if 0 ≤ (Int.tmod a0_6 8) then (if (Int.tmod a0_6 8) < (y309.length : Int) then (some (wrap64 (Int.tmod a0_4 12), t306, rdOf ByteArray.empty y309 (Int.tmod a0_6 8))) else (none)) else (none)))) = some (r1, r2, r3) := by rw [if_pos rfl] at H; exact H
  clear H
  have H := H1
  clear H1
  replace H := Option.bind_eq_some_iff.mp H
  obtain ⟨t306, A30, H⟩ := H
  replace H : ((some (([(⟨#[97]⟩ : ByteArray), (⟨#[98]⟩ : ByteArray), (⟨#[110, 61, 55]⟩ : ByteArray), (⟨#[108, 118, 108, 61, 98, 32, 110, 61, 51]⟩ : ByteArray), (⟨#[120, 49]⟩ : ByteArray), (⟨#[]⟩ : ByteArray), (⟨#[100, 117, 114, 61, 53, 109]⟩ : ByteArray), (⟨#[101, 114, 114, 111, 114, 58, 32, 97]⟩ : ByteArray)] : List ByteArray) : List ByteArray)).bind fun y309 => (if 0 ≤ (Int.tmod a0_6 8) then (if (Int.tmod a0_6 8) < (y309.length : Int) then (some (wrap64 (Int.tmod a0_4 12), t306, rdOf ByteArray.empty y309 (Int.tmod a0_6 8))) else (none)) else (none))) = some (r1, r2, r3) := H
  have A3 := Aside0.mk A30
  clear A30
  obtain ⟨y309, hy309⟩ : ∃ y_ : List ByteArray, y_ = (([(⟨#[97]⟩ : ByteArray), (⟨#[98]⟩ : ByteArray), (⟨#[110, 61, 55]⟩ : ByteArray), (⟨#[108, 118, 108, 61, 98, 32, 110, 61, 51]⟩ : ByteArray), (⟨#[120, 49]⟩ : ByteArray), (⟨#[]⟩ : ByteArray), (⟨#[100, 117, 114, 61, 53, 109]⟩ : ByteArray), (⟨#[101, 114, 114, 111, 114, 58, 32, 97]⟩ : ByteArray)] : List ByteArray)) := ⟨_, rfl⟩
  replace H : (if 0 ≤ (Int.tmod a0_6 8) then (if (Int.tmod a0_6 8) < (y309.length : Int) then (some (wrap64 (Int.tmod a0_4 12), t306, rdOf ByteArray.empty y309 (Int.tmod a0_6 8))) else (none)) else (none)) = some (r1, r2, r3) := by first | (rw [hy309]; with_reducible exact H) | (have H2_ := (Option.bind_some _ _).symm.trans H; rw [hy309]; with_reducible exact H2_) | (have H2_ := (Option.bind_some _ _).symm.trans H; with_reducible exact H2_) | with_reducible exact H | (rw [hy309]; exact H) | exact H
  have Ny309 := Aside0.mk hy309
  clear hy309
  obtain ⟨ji4, hji4⟩ : ∃ j_ : Int, (Int.tmod a0_6 8) = j_ := ⟨_, rfl⟩
  replace H : (if 0 ≤ (ji4) then (if (ji4) < (y309.length : Int) then (some (wrap64 (Int.tmod a0_4 12), t306, rdOf ByteArray.empty y309 (ji4))) else (none)) else (none)) = some (r1, r2, r3) := by first | (rw [hji4] at H; exact H) | (simp only [hji4] at H ⊢; exact H)
  (try rw [hji4] at A3)
  by_cases c5 : 0 ≤ (ji4)
  ·rw [if_pos c5] at H
   have c5b0 := decide_eq_true c5
   clear c5
   by_cases c6 : (ji4) < (y309.length : Int)
   ·rw [if_pos c6] at H
    have c6b0 := decide_eq_true c6
    clear c6
    simp only [Option.some.injEq, Prod.mk.injEq] at H
    obtain ⟨rfl, rfl, rfl⟩ := H
    go_enter Tryd.func8, Tryd.ntmps8
    try go_wp2_with (first | ((with_reducible refine gate_dst (N := 1) rfl ?_); refine box_event ?hg (N := 1) ?hd (cs := #[.int .i64 a0_0, .slice A0_1 l0_1.length c0_1, .string a0_2, .bool true, .int .i8 a0_4, .slice A0_5 l0_5.length c0_5, .int .u8 a0_6]) (t := 29) ?hr ?_; (case hd => rfl); (case hg => rfl); (case hr => first | (go_simp; done) | (go_simp; rfl)); intro gb304 hg w7 hbox hb; have n0_ := Aside0.mk (Kd.V_below (Kd.V_elderB (by (with_reducible repeat (first | apply Kd.V_alloc | apply Kd.V_drewN | apply Kd.V_drew)); exact HO0_1.out) gb304 (Nat.le_of_eq hg.symm)) hb); have n1_ := Aside0.mk (below_step bl hb); have n2_ := Aside0.mk (hbox); have n3_ := Aside0.mk ((by rw [hg]; exact (below_size bl) : w.heap.size ≤ gb304)); have n4_ := Aside0.mk ((by rw [hg]; exact (below_size bl) : w.heap.size ≤ gb304)); clear HO0_1; clear HB; have HO0_1 := n0_; have HB := n1_; have BK304 := n2_; have GW304 := n3_; have GE304 := n4_; clear n0_ n1_ n2_ n3_ n4_; clear hb hbox hg) | ((with_reducible refine gate_dst (N := 2) rfl ?_); refine box_event ?hg (N := 2) ?hd (cs := #[.int .i64 0, .slice none 0 0, .string (⟨#[]⟩ : ByteArray)]) (t := 25) ?hr ?_; (case hd => rfl); (case hg => rfl); (case hr => first | (go_simp; done) | (go_simp; rfl)); intro gb305 hg w8 hbox hb; have n0_ := Aside0.mk (Kd.V_below (Kd.V_elderB (by (with_reducible repeat (first | apply Kd.V_alloc | apply Kd.V_drewN | apply Kd.V_drew)); exact HO0_1.out) gb305 (Nat.le_of_eq hg.symm)) hb); have n1_ := Aside0.mk (blk_below (g := gb304) (o := .cells #[.int .i64 a0_0, .slice A0_1 l0_1.length c0_1, .string a0_2, .bool true, .int .i8 a0_4, .slice A0_5 l0_5.length c0_5, .int .u8 a0_6] 29 (0, 0)) (bz BK304.out) hb); have n2_ := Aside0.mk (below_step (by repeat (first | (with_reducible first | exact HB.out | apply below_alloc | apply pw_below_drewN | apply below_drew1 | refine below_set ?_ GE304.out) | exact HB.out)) hb); have n3_ := Aside0.mk (hbox); have n4_ := Aside0.mk ((by rw [hg]; exact (below_size (by repeat (first | (with_reducible first | exact HB.out | apply below_alloc | apply pw_below_drewN | apply below_drew1 | refine below_set ?_ GE304.out) | exact HB.out))) : w.heap.size ≤ gb305)); have n5_ := Aside0.mk ((by rw [hg]; exact (below_size (by repeat (first | (with_reducible first | exact HB.out | apply below_alloc | apply pw_below_drewN | apply below_drew1 | refine below_set ?_ GE304.out) | exact HB.out))) : w.heap.size ≤ gb305)); have n6_ := Aside0.mk ((by rw [hg]; exact Nat.ne_of_lt (blk_lt (g := gb304) (o := .cells #[.int .i64 a0_0, .slice A0_1 l0_1.length c0_1, .string a0_2, .bool true, .int .i8 a0_4, .slice A0_5 l0_5.length c0_5, .int .u8 a0_6] 29 (0, 0)) (bz BK304.out)) : gb304 ≠ gb305)); have n7_ := Aside0.mk ((by rw [hg]; exact Nat.ne_of_gt (blk_lt (g := gb304) (o := .cells #[.int .i64 a0_0, .slice A0_1 l0_1.length c0_1, .string a0_2, .bool true, .int .i8 a0_4, .slice A0_5 l0_5.length c0_5, .int .u8 a0_6] 29 (0, 0)) (bz BK304.out)) : gb305 ≠ gb304)); clear HO0_1; clear BK304; clear HB; have HO0_1 := n0_; have BK304 := n1_; have HB := n2_; have BK305 := n3_; have GW305 := n4_; have GE305 := n5_; have NB304_305 := n6_; have NB305_304 := n7_; clear n0_ n1_ n2_ n3_ n4_ n5_ n6_ n7_; clear hb hbox hg; have hnb9 := NB304_305.out; have hnc9 := NB305_304.out; have hcz10_0 : w8.cell? ⟨gb304, 0, none⟩ = some (.int .i64 a0_0) := (blk_cell BK304.out 0).trans rfl; have hcz10_1 : w8.cell? ⟨gb304, 1, none⟩ = some (.slice A0_1 l0_1.length c0_1) := (blk_cell BK304.out 1).trans rfl; have hcz10_2 : w8.cell? ⟨gb304, 2, none⟩ = some (.string a0_2) := (blk_cell BK304.out 2).trans rfl; have hcz10_3 : w8.cell? ⟨gb304, 3, none⟩ = some (.bool true) := (blk_cell BK304.out 3).trans rfl; have hcz10_4 : w8.cell? ⟨gb304, 4, none⟩ = some (.int .i8 a0_4) := (blk_cell BK304.out 4).trans rfl; have hcz10_5 : w8.cell? ⟨gb304, 5, none⟩ = some (.slice A0_5 l0_5.length c0_5) := (blk_cell BK304.out 5).trans rfl; have hcz10_6 : w8.cell? ⟨gb304, 6, none⟩ = some (.int .u8 a0_6) := (blk_cell BK304.out 6).trans rfl; have hfz10_0 := blk_frozen BK304.out 0; have hfz10_1 := blk_frozen BK304.out 1; have hfz10_2 := blk_frozen BK304.out 2; have hfz10_3 := blk_frozen BK304.out 3; have hfz10_4 := blk_frozen BK304.out 4; have hfz10_5 := blk_frozen BK304.out 5; have hfz10_6 := blk_frozen BK304.out 6))
    have pi312 : (0 ≤ ((ji4) : Int)) = True := eq_true (od)
    have qi312 : ((ji4) < (y309.length : Int)) = True := eq_true (od)
    have n0_ := Aside0.mk (Kd.V_drew HO0_1.out)
    have n1_ := Aside0.mk (blk_drew BK304.out)
    have n2_ := Aside0.mk (blk_drew BK305.out)
    have n3_ := Aside0.mk (below_drew1 HB.out)
    clear HO0_1
    clear BK304
    clear BK305
    clear HB
    have HO0_1 := n0_
    have BK304 := n1_
    have BK305 := n2_
    have HB := n3_
    clear n0_ n1_ n2_ n3_
    refine start_ (n := 15) (S := fun w' => True) (ds := []) #[N_,N_,N_,N_,N_,N_,N_,N_,N_,N_,N_,N_,N_,N_,N_] (by kernel_rfl) rfl rfl trivial (fun hHeld => ?_); refine with_tabW archivistlaw13_Item_item.tab3 archivistlaw13_Item_item.bits3 (fun HT_ HW_ => ?_)
    generalize w8.drew = w11 at HO0_1 BK304 BK305 HB hHeld ⊢
    refine pY 0 8 #[J_,N_,N_,N_,N_,N_,N_,N_,N_,N_,N_,N_,N_,N_,N_] HT_.out ?_
    refine pY 4 12 #[J_,N_,N_,N_,J_,N_,N_,N_,N_,N_,N_,N_,N_,N_,N_] HT_.out ?_
    refine pY 8 16 #[J_,N_,N_,N_,J_,N_,N_,N_,J_,N_,N_,N_,N_,N_,N_] HT_.out ?_
    refine inv_at [1, 2, 3, 5, 6, 7, 9, 10, 11, 12, 13, 14] (fun a0_ b a w' => ∃ (v307 : Value) (v310 : Value) (adz_v310 : Addr) (m11_ : Value) (m13_ : Value), a = putSel a0_ b [(1, 9, .int .i8 a0_4), (2, 10, .int .i8 (Int.tmod a0_4 12)), (3, 11, .int .i64 (wrap64 (Int.tmod a0_4 12))), (5, 13, .slice A0_5 l0_5.length c0_5), (6, 14, v307), (7, 15, v310), (9, 17, .int .u8 a0_6), (10, 18, .int .u8 ji4), (11, 19, m11_), (12, 20, .string (rdOf ByteArray.empty y309 (ji4))), (13, 21, m13_)] ∧ (Kd.V k48 48 w' w.heap.size (fun k_ => (P0_1_ k_ ∨ w.heap.size ≤ k_) ∧ k_ ≠ gb304 ∧ k_ ≠ gb305) (.slice A0_1 l0_1.length c0_1) l0_1) ∧ (w'.heap[gb304]? = some (.cells #[.int .i64 a0_0, .slice A0_1 l0_1.length c0_1, .string a0_2, .bool true, .int .i8 a0_4, .slice A0_5 l0_5.length c0_5, .int .u8 a0_6] 29 (0, 0))) ∧ (b 14 = false → w'.heap[gb305]? = some (.cells #[.int .i64 0, .slice none 0 0, .string (⟨#[]⟩ : ByteArray)] 25 (0, 0))) ∧ (Below w.heap.size w w') ∧ (b 6 = true → Kd.R k48 48 w' w.heap.size (fun k_ => (w.heap.size ≤ k_)) v307 t306) ∧ (b 7 = true → Kd.R Kd.string 9 w' w.heap.size (fun k_ => (w.heap.size ≤ k_)) v310 y309) ∧ (b 7 = true → ∃ c_, (v310 : Value) = .slice (some adz_v310) y309.length c_) ∧ (b 14 = true → w'.heap[gb305]? = some (.cells #[.int .i64 (wrap64 (Int.tmod a0_4 12)), v307, .string (rdOf ByteArray.empty y309 (ji4))] 25 (0, 0))) ∧ (b 11 = true → (m11_ : Value) = .pointer (some (adz_v310.add ((ji4)).toNat))) ∧ (b 13 = true → (m13_ : Value) = .agg #[.int .i64 (wrap64 (Int.tmod a0_4 12)), v307, .string (rdOf ByteArray.empty y309 (ji4))])) HT_.out HW_.out (by kernel_rfl) (by kernel_rfl) ?_ ?_ ?_
    ·exact ⟨.bool false, .bool false, ⟨0, 0, none⟩, .bool false, .bool false, by simp only [putSel, Bool.false_eq_true, if_false], (by first | exact HO0_1.out | exact Kd.V_mono HO0_1.out (fun _ hk => by grind)), BK304.out, fun _ => BK305.out, HB.out, fun h_ => absurd h_ (by decide), fun h_ => absurd h_ (by decide), fun h_ => absurd h_ (by decide), fun h_ => absurd h_ (by decide), fun h_ => absurd h_ (by decide), fun h_ => absurd h_ (by decide)⟩
    ·skip
     clear BK304 BK305 HB HO0_1
     refine steps_cons ?_ ?_
     ·rintro b a w' ⟨v307, v310, adz_v310, m11_, m13_, ha, Q_HO0_1, Q_BK304, Q_BK305, Q_HB, Q_HO308, Q_HO311, Q_HA_HO311, Q_BK305_e14, Q_X11_, Q_X13_⟩ hb_ hon hoff
      refine ⟨_, rfl, fun K hK => ?_⟩
      have e8 : a.tmps[8]? = some (.pointer (some ⟨gb304, 4, none⟩)) := by rw [ha]; exact (putSel_off rfl).trans rfl
      replace ha := Aside0.mk ha
      have HO0_1 := Aside0.mk Q_HO0_1
      have BK304 := Aside0.mk Q_BK304
      have BK305 := Aside0.mk (Q_BK305 (hoff 14 (by kernel_rfl)))
      have HB := Aside0.mk Q_HB
      have hc0_ : w'.cell? ⟨gb304, 0, none⟩ = some (.int .i64 a0_0) := (blk_cell BK304.out 0).trans rfl
      have hc1_ : w'.cell? ⟨gb304, 1, none⟩ = some (.slice A0_1 l0_1.length c0_1) := (blk_cell BK304.out 1).trans rfl
      have hc2_ : w'.cell? ⟨gb304, 2, none⟩ = some (.string a0_2) := (blk_cell BK304.out 2).trans rfl
      have hc3_ : w'.cell? ⟨gb304, 3, none⟩ = some (.bool true) := (blk_cell BK304.out 3).trans rfl
      have hc4_ : w'.cell? ⟨gb304, 4, none⟩ = some (.int .i8 a0_4) := (blk_cell BK304.out 4).trans rfl
      have hc5_ : w'.cell? ⟨gb304, 5, none⟩ = some (.slice A0_5 l0_5.length c0_5) := (blk_cell BK304.out 5).trans rfl
      have hc6_ : w'.cell? ⟨gb304, 6, none⟩ = some (.int .u8 a0_6) := (blk_cell BK304.out 6).trans rfl
      refine value_ (w1 := w') (v := .int .i8 a0_4) (by rfl) rfl ?_ ?_
      ·go_simp
       (try simp only [i64_w])
       try rfl
      refine hK.out _ _ ⟨v307, v310, adz_v310, m11_, m13_, (by rw [ha.out]; exact putSel_upk 0 hb_ rfl rfl rfl), Q_HO0_1, Q_BK304, Q_BK305, Q_HB, Q_HO308, Q_HO311, Q_HA_HO311, fun h0_ => absurd ((hoff 14 (by kernel_rfl)).symm.trans h0_) (by decide), Q_X11_, fun h0_ => absurd ((hoff 13 (by kernel_rfl)).symm.trans h0_) (by decide)⟩
     refine steps_cons ?_ ?_
     ·rintro b a w' ⟨v307, v310, adz_v310, m11_, m13_, ha, Q_HO0_1, Q_BK304, Q_BK305, Q_HB, Q_HO308, Q_HO311, Q_HA_HO311, Q_BK305_e14, Q_X11_, Q_X13_⟩ hb_ hon hoff
      refine ⟨_, rfl, fun K hK => ?_⟩
      have e9 : a.tmps[9]? = some (.int .i8 a0_4) := by rw [ha]; exact putSel_on (e := (1, 9, .int .i8 a0_4)) 0 rfl rfl (hon 1 (by kernel_rfl)) rfl
      replace ha := Aside0.mk ha
      have HO0_1 := Aside0.mk Q_HO0_1
      have BK304 := Aside0.mk Q_BK304
      have BK305 := Aside0.mk (Q_BK305 (hoff 14 (by kernel_rfl)))
      have HB := Aside0.mk Q_HB
      refine value_ (w1 := w') (v := .int .i8 (Int.tmod a0_4 12)) (by rfl) rfl ?_ ?_
      ·go_simp
       (try simp only [i64_w])
       try rfl
      refine hK.out _ _ ⟨v307, v310, adz_v310, m11_, m13_, (by rw [ha.out]; exact putSel_upk 1 hb_ rfl rfl rfl), Q_HO0_1, Q_BK304, Q_BK305, Q_HB, Q_HO308, Q_HO311, Q_HA_HO311, fun h0_ => absurd ((hoff 14 (by kernel_rfl)).symm.trans h0_) (by decide), Q_X11_, fun h0_ => absurd ((hoff 13 (by kernel_rfl)).symm.trans h0_) (by decide)⟩
     refine steps_cons ?_ ?_
     ·rintro b a w' ⟨v307, v310, adz_v310, m11_, m13_, ha, Q_HO0_1, Q_BK304, Q_BK305, Q_HB, Q_HO308, Q_HO311, Q_HA_HO311, Q_BK305_e14, Q_X11_, Q_X13_⟩ hb_ hon hoff
      refine ⟨_, rfl, fun K hK => ?_⟩
      have e10 : a.tmps[10]? = some (.int .i8 (Int.tmod a0_4 12)) := by rw [ha]; exact putSel_on (e := (2, 10, .int .i8 (Int.tmod a0_4 12))) 1 rfl rfl (hon 2 (by kernel_rfl)) rfl
      replace ha := Aside0.mk ha
      have HO0_1 := Aside0.mk Q_HO0_1
      have BK304 := Aside0.mk Q_BK304
      have BK305 := Aside0.mk (Q_BK305 (hoff 14 (by kernel_rfl)))
      have HB := Aside0.mk Q_HB
      refine value_ (w1 := w') (v := .int .i64 (wrap64 (Int.tmod a0_4 12))) (by rfl) rfl ?_ ?_
      ·go_simp
       (try simp only [i64_w])
       try rfl
      refine hK.out _ _ ⟨v307, v310, adz_v310, m11_, m13_, (by rw [ha.out]; exact putSel_upk 2 hb_ rfl rfl rfl), Q_HO0_1, Q_BK304, Q_BK305, Q_HB, Q_HO308, Q_HO311, Q_HA_HO311, fun h0_ => absurd ((hoff 14 (by kernel_rfl)).symm.trans h0_) (by decide), Q_X11_, fun h0_ => absurd ((hoff 13 (by kernel_rfl)).symm.trans h0_) (by decide)⟩
     refine steps_cons ?_ ?_
     ·rintro b a w' ⟨v307, v310, adz_v310, m11_, m13_, ha, Q_HO0_1, Q_BK304, Q_BK305, Q_HB, Q_HO308, Q_HO311, Q_HA_HO311, Q_BK305_e14, Q_X11_, Q_X13_⟩ hb_ hon hoff
      refine ⟨_, rfl, fun K hK => ?_⟩
      have e12 : a.tmps[12]? = some (.pointer (some ⟨gb304, 5, none⟩)) := by rw [ha]; exact (putSel_off rfl).trans rfl
      replace ha := Aside0.mk ha
      have HO0_1 := Aside0.mk Q_HO0_1
      have BK304 := Aside0.mk Q_BK304
      have BK305 := Aside0.mk (Q_BK305 (hoff 14 (by kernel_rfl)))
      have HB := Aside0.mk Q_HB
      have hc0_ : w'.cell? ⟨gb304, 0, none⟩ = some (.int .i64 a0_0) := (blk_cell BK304.out 0).trans rfl
      have hc1_ : w'.cell? ⟨gb304, 1, none⟩ = some (.slice A0_1 l0_1.length c0_1) := (blk_cell BK304.out 1).trans rfl
      have hc2_ : w'.cell? ⟨gb304, 2, none⟩ = some (.string a0_2) := (blk_cell BK304.out 2).trans rfl
      have hc3_ : w'.cell? ⟨gb304, 3, none⟩ = some (.bool true) := (blk_cell BK304.out 3).trans rfl
      have hc4_ : w'.cell? ⟨gb304, 4, none⟩ = some (.int .i8 a0_4) := (blk_cell BK304.out 4).trans rfl
      have hc5_ : w'.cell? ⟨gb304, 5, none⟩ = some (.slice A0_5 l0_5.length c0_5) := (blk_cell BK304.out 5).trans rfl
      have hc6_ : w'.cell? ⟨gb304, 6, none⟩ = some (.int .u8 a0_6) := (blk_cell BK304.out 6).trans rfl
      refine value_ (w1 := w') (v := .slice A0_5 l0_5.length c0_5) (by rfl) rfl ?_ ?_
      ·go_simp
       (try simp only [i64_w])
       try rfl
      refine hK.out _ _ ⟨v307, v310, adz_v310, m11_, m13_, (by rw [ha.out]; exact putSel_upk 3 hb_ rfl rfl rfl), Q_HO0_1, Q_BK304, Q_BK305, Q_HB, fun h0_ => absurd ((hoff 6 (by kernel_rfl)).symm.trans h0_) (by decide), Q_HO311, Q_HA_HO311, fun h0_ => absurd ((hoff 14 (by kernel_rfl)).symm.trans h0_) (by decide), Q_X11_, fun h0_ => absurd ((hoff 13 (by kernel_rfl)).symm.trans h0_) (by decide)⟩
     refine steps_cons ?_ ?_
     ·rintro b a w' ⟨v307, v310, adz_v310, m11_, m13_, ha, Q_HO0_1, Q_BK304, Q_BK305, Q_HB, Q_HO308, Q_HO311, Q_HA_HO311, Q_BK305_e14, Q_X11_, Q_X13_⟩ hb_ hon hoff
      refine ⟨_, rfl, fun K hK => ?_⟩
      have e13 : a.tmps[13]? = some (.slice A0_5 l0_5.length c0_5) := by rw [ha]; exact putSel_on (e := (5, 13, .slice A0_5 l0_5.length c0_5)) 3 rfl rfl (hon 5 (by kernel_rfl)) rfl
      replace ha := Aside0.mk ha
      have HO0_1 := Aside0.mk Q_HO0_1
      have BK304 := Aside0.mk Q_BK304
      have BK305 := Aside0.mk (Q_BK305 (hoff 14 (by kernel_rfl)))
      have HB := Aside0.mk Q_HB
      refine goes_ Tryd.func18 (by kernel_rfl) rfl #[.slice A0_5 l0_5.length c0_5] (by rfl) rfl rfl (by first | (simp only [List.map_toArray, List.map_cons, List.map_nil, Act.eval, Array.getD_eq_getD_getElem?, Option.getD_some, e13]; done) | (simp only [List.map_toArray, List.map_cons, List.map_nil, Act.eval, Array.getD_eq_getD_getElem?, Option.getD_some, e13]; rfl)) ?_
      with_reducible refine (archivistlaw13_few2.calls _ _ _ _ _ _ ?side1 ?side2 A3.out).mono ?_
      (case side1 => repeat (first | exact (Kd.C_below HR0_5.out HB.out) | (with_reducible refine Kd.C_alloc ?_ _) | (with_reducible refine Kd.C_drewN ?_ _) | (with_reducible refine Kd.C_drew ?_)))
      (case side2 => exact HC0_5.out)
      rintro e w12 ⟨v307, rfl, ho0, hb⟩
      refine ⟨_, rfl, ?_⟩
      have n0_ := Aside0.mk (Kd.V_elder' (by (with_reducible repeat (first | apply Kd.V_alloc | apply Kd.V_drewN | apply Kd.V_drew)); exact HO0_1.out) (Kd.R_base ho0) hb)
      have n1_ := Aside0.mk (Kd.R_lower (Kd.R_newM (M := fun k_ => (w.heap.size ≤ k_)) ho0 (below_size (by repeat (first | (with_reducible first | exact HB.out | apply below_alloc | apply pw_below_drewN | apply below_drew1 | refine below_set ?_ GE304.out | refine below_set ?_ GE305.out) | exact HB.out))) (fun k_ h_ => h_)) (below_size (by repeat (first | (with_reducible first | exact HB.out | apply below_alloc | apply pw_below_drewN | apply below_drew1 | refine below_set ?_ GE304.out | refine below_set ?_ GE305.out) | exact HB.out))))
      have n2_ := Aside0.mk (blk_below (g := gb304) (o := .cells #[.int .i64 a0_0, .slice A0_1 l0_1.length c0_1, .string a0_2, .bool true, .int .i8 a0_4, .slice A0_5 l0_5.length c0_5, .int .u8 a0_6] 29 (0, 0)) (bz BK304.out) hb)
      have n3_ := Aside0.mk (blk_below (g := gb305) (o := .cells #[.int .i64 0, .slice none 0 0, .string (⟨#[]⟩ : ByteArray)] 25 (0, 0)) (bz BK305.out) hb)
      have n4_ := Aside0.mk (below_step (by repeat (first | (with_reducible first | exact HB.out | apply below_alloc | apply pw_below_drewN | apply below_drew1 | refine below_set ?_ GE304.out | refine below_set ?_ GE305.out) | exact HB.out)) hb)
      have z_HO311 := fun (h0_ : b 7 = true) => (show Kd.R Kd.string 9 w12 w.heap.size (fun k_ => (w.heap.size ≤ k_)) v310 y309 from by first | exact (Kd.R_below (by (with_reducible repeat (first | apply Kd.R_alloc | apply Kd.R_drewN | apply Kd.R_drew)); exact (Q_HO311 h0_)) hb) | exact Kd.R_mono (Kd.R_below (by (with_reducible repeat (first | apply Kd.R_alloc | apply Kd.R_drewN | apply Kd.R_drew)); exact (Q_HO311 h0_)) hb) (fun _ h_ => by first | trivial | exact h_ | exact h_.1))
      clear HO0_1
      clear BK304
      clear BK305
      clear HB
      have HO0_1 := n0_
      have HO308 := n1_
      have BK304 := n2_
      have BK305 := n3_
      have HB := n4_
      clear n0_ n1_ n2_ n3_ n4_
      (try clear hb)
      (try clear hb2)
      (try clear hk)
      (try clear hi)
      (try clear ho0)
      refine hK.out _ _ ⟨v307, v310, adz_v310, m11_, m13_, (by rw [ha.out]; exact putSel_upk 4 hb_ rfl rfl rfl), (by (with_reducible repeat (first | apply Kd.V_alloc | apply Kd.V_drewN | apply Kd.V_drew)); exact Kd.V_mono HO0_1.out (fun _ hk => by first | exact ⟨hk.1.1.1, ⟨hk.2, ⟨hk.1.1.2, hk.1.2⟩⟩⟩ | grind)), (bz BK304.out), fun _ => (bz BK305.out), (by repeat (first | (with_reducible first | exact HB.out | apply below_alloc | apply pw_below_drewN | apply below_drew1 | refine below_set ?_ GE304.out | refine below_set ?_ GE305.out) | exact HB.out)), fun _ => (by (with_reducible repeat (first | apply Kd.R_alloc | apply Kd.R_drewN | apply Kd.R_drew)); exact Kd.R_mono HO308.out (fun _ hk => hk.1)), z_HO311, Q_HA_HO311, fun h0_ => absurd ((hoff 14 (by kernel_rfl)).symm.trans h0_) (by decide), Q_X11_, fun h0_ => absurd ((hoff 13 (by kernel_rfl)).symm.trans h0_) (by decide)⟩
     refine steps_cons ?_ ?_
     ·rintro b a w' ⟨v307, v310, adz_v310, m11_, m13_, ha, Q_HO0_1, Q_BK304, Q_BK305, Q_HB, Q_HO308, Q_HO311, Q_HA_HO311, Q_BK305_e14, Q_X11_, Q_X13_⟩ hb_ hon hoff
      refine ⟨_, rfl, fun K hK => ?_⟩
      replace ha := Aside0.mk ha
      have HO0_1 := Aside0.mk Q_HO0_1
      have BK304 := Aside0.mk Q_BK304
      have BK305 := Aside0.mk (Q_BK305 (hoff 14 (by kernel_rfl)))
      have HB := Aside0.mk Q_HB
      refine Kd.R_lit_step Kd.string _ 9 ?hg (N := 15) ?hd (xs := ([(⟨#[97]⟩ : ByteArray), (⟨#[98]⟩ : ByteArray), (⟨#[110, 61, 55]⟩ : ByteArray), (⟨#[108, 118, 108, 61, 98, 32, 110, 61, 51]⟩ : ByteArray), (⟨#[120, 49]⟩ : ByteArray), (⟨#[]⟩ : ByteArray), (⟨#[100, 117, 114, 61, 53, 109]⟩ : ByteArray), (⟨#[101, 114, 114, 111, 114, 58, 32, 97]⟩ : ByteArray)] : List ByteArray)) (inner := [.string (⟨#[97]⟩ : ByteArray), .string (⟨#[98]⟩ : ByteArray), .string (⟨#[110, 61, 55]⟩ : ByteArray), .string (⟨#[108, 118, 108, 61, 98, 32, 110, 61, 51]⟩ : ByteArray), .string (⟨#[120, 49]⟩ : ByteArray), .string (⟨#[]⟩ : ByteArray), .string (⟨#[100, 117, 114, 61, 53, 109]⟩ : ByteArray), .string (⟨#[101, 114, 114, 111, 114, 58, 32, 97]⟩ : ByteArray)]) (ok := fun _ => True) (okp := fun _ => True) ?hr ?hp (fun _ hk => hk) trivial (Below.refl _ _) (Nat.le_refl _) (by simp) ?_; (case hd => rfl); (case hg => rfl); (case hr => first | (go_simp; done) | (go_simp; rfl)); (case hp => exact (Reps.one (show Kd.M Kd.string _ _ _ (⟨#[97]⟩ : ByteArray) [.string (⟨#[97]⟩ : ByteArray)] from rfl) (Reps.one (show Kd.M Kd.string _ _ _ (⟨#[98]⟩ : ByteArray) [.string (⟨#[98]⟩ : ByteArray)] from rfl) (Reps.one (show Kd.M Kd.string _ _ _ (⟨#[110, 61, 55]⟩ : ByteArray) [.string (⟨#[110, 61, 55]⟩ : ByteArray)] from rfl) (Reps.one (show Kd.M Kd.string _ _ _ (⟨#[108, 118, 108, 61, 98, 32, 110, 61, 51]⟩ : ByteArray) [.string (⟨#[108, 118, 108, 61, 98, 32, 110, 61, 51]⟩ : ByteArray)] from rfl) (Reps.one (show Kd.M Kd.string _ _ _ (⟨#[120, 49]⟩ : ByteArray) [.string (⟨#[120, 49]⟩ : ByteArray)] from rfl) (Reps.one (show Kd.M Kd.string _ _ _ (⟨#[]⟩ : ByteArray) [.string (⟨#[]⟩ : ByteArray)] from rfl) (Reps.one (show Kd.M Kd.string _ _ _ (⟨#[100, 117, 114, 61, 53, 109]⟩ : ByteArray) [.string (⟨#[100, 117, 114, 61, 53, 109]⟩ : ByteArray)] from rfl) (Reps.one (show Kd.M Kd.string _ _ _ (⟨#[101, 114, 114, 111, 114, 58, 32, 97]⟩ : ByteArray) [.string (⟨#[101, 114, 114, 111, 114, 58, 32, 97]⟩ : ByteArray)] from rfl) (Reps.none _ _))))))))))
      intro v310 w12 ho13 hb hg_ hnew_
      clear hg_ hnew_
      (first | rw [← Ny309.out] at ho13 | (simp only [Int.reduceToNat] at ho13; rw [← Ny309.out] at ho13))
      have n0_ := Aside0.mk (Kd.V_elder' (by (with_reducible repeat (first | apply Kd.V_alloc | apply Kd.V_drewN | apply Kd.V_drew)); exact HO0_1.out) (Kd.R_base ho13) hb)
      have n1_ := Aside0.mk (Kd.R_lower (Kd.R_newM (M := fun k_ => (w.heap.size ≤ k_)) ho13 (below_size (by repeat (first | (with_reducible first | exact HB.out | apply below_alloc | apply pw_below_drewN | apply below_drew1 | refine below_set ?_ GE304.out | refine below_set ?_ GE305.out) | exact HB.out))) (fun k_ h_ => h_)) (below_size (by repeat (first | (with_reducible first | exact HB.out | apply below_alloc | apply pw_below_drewN | apply below_drew1 | refine below_set ?_ GE304.out | refine below_set ?_ GE305.out) | exact HB.out))))
      have n2_ := Aside0.mk (blk_below (g := gb304) (o := .cells #[.int .i64 a0_0, .slice A0_1 l0_1.length c0_1, .string a0_2, .bool true, .int .i8 a0_4, .slice A0_5 l0_5.length c0_5, .int .u8 a0_6] 29 (0, 0)) (bz BK304.out) hb)
      have n3_ := Aside0.mk (blk_below (g := gb305) (o := .cells #[.int .i64 0, .slice none 0 0, .string (⟨#[]⟩ : ByteArray)] 25 (0, 0)) (bz BK305.out) hb)
      have n4_ := Aside0.mk (below_step (by repeat (first | (with_reducible first | exact HB.out | apply below_alloc | apply pw_below_drewN | apply below_drew1 | refine below_set ?_ GE304.out | refine below_set ?_ GE305.out) | exact HB.out)) hb)
      have z_HO308 := fun (h0_ : b 6 = true) => (show Kd.R k48 48 w12 w.heap.size (fun k_ => (w.heap.size ≤ k_)) v307 t306 from by first | exact (Kd.R_below (by (with_reducible repeat (first | apply Kd.R_alloc | apply Kd.R_drewN | apply Kd.R_drew)); exact (Q_HO308 h0_)) hb) | exact Kd.R_mono (Kd.R_below (by (with_reducible repeat (first | apply Kd.R_alloc | apply Kd.R_drewN | apply Kd.R_drew)); exact (Q_HO308 h0_)) hb) (fun _ h_ => by first | trivial | exact h_ | exact h_.1))
      clear HO0_1
      clear BK304
      clear BK305
      clear HB
      have HO0_1 := n0_
      have HO311 := n1_
      have BK304 := n2_
      have BK305 := n3_
      have HB := n4_
      clear n0_ n1_ n2_ n3_ n4_
      clear hb ho13
      obtain ⟨Ao14, co14, eo14⟩ := Kd.R_slice HO311.out
      subst eo14
      obtain ⟨ado14, fo14, _⟩ := Kd.at_string (Kd.R_reads' HO311.out).2.2 0 (by decide) (by rw [Ny309.out]; simp)
      cases fo14
      refine hK.out _ _ ⟨v307, .slice (some ado14) y309.length co14, ado14, m11_, m13_, (by rw [ha.out]; exact putSel_upk 5 hb_ rfl rfl rfl), (by (with_reducible repeat (first | apply Kd.V_alloc | apply Kd.V_drewN | apply Kd.V_drew)); exact Kd.V_mono HO0_1.out (fun _ hk => by first | exact ⟨hk.1.1.1, ⟨hk.2, ⟨hk.1.1.2, hk.1.2⟩⟩⟩ | grind)), (bz BK304.out), fun _ => (bz BK305.out), (by repeat (first | (with_reducible first | exact HB.out | apply below_alloc | apply pw_below_drewN | apply below_drew1 | refine below_set ?_ GE304.out | refine below_set ?_ GE305.out) | exact HB.out)), z_HO308, fun _ => (by (with_reducible repeat (first | apply Kd.R_alloc | apply Kd.R_drewN | apply Kd.R_drew)); exact Kd.R_mono HO311.out (fun _ hk => hk.1)), fun _ => ⟨_, rfl⟩, fun h0_ => absurd ((hoff 14 (by kernel_rfl)).symm.trans h0_) (by decide), fun h0_ => absurd ((hoff 11 (by kernel_rfl)).symm.trans h0_) (by decide), fun h0_ => absurd ((hoff 13 (by kernel_rfl)).symm.trans h0_) (by decide)⟩
     refine steps_cons ?_ ?_
     ·rintro b a w' ⟨v307, v310, adz_v310, m11_, m13_, ha, Q_HO0_1, Q_BK304, Q_BK305, Q_HB, Q_HO308, Q_HO311, Q_HA_HO311, Q_BK305_e14, Q_X11_, Q_X13_⟩ hb_ hon hoff
      refine ⟨_, rfl, fun K hK => ?_⟩
      have e16 : a.tmps[16]? = some (.pointer (some ⟨gb304, 6, none⟩)) := by rw [ha]; exact (putSel_off rfl).trans rfl
      replace ha := Aside0.mk ha
      have HO0_1 := Aside0.mk Q_HO0_1
      have BK304 := Aside0.mk Q_BK304
      have BK305 := Aside0.mk (Q_BK305 (hoff 14 (by kernel_rfl)))
      have HB := Aside0.mk Q_HB
      have hc0_ : w'.cell? ⟨gb304, 0, none⟩ = some (.int .i64 a0_0) := (blk_cell BK304.out 0).trans rfl
      have hc1_ : w'.cell? ⟨gb304, 1, none⟩ = some (.slice A0_1 l0_1.length c0_1) := (blk_cell BK304.out 1).trans rfl
      have hc2_ : w'.cell? ⟨gb304, 2, none⟩ = some (.string a0_2) := (blk_cell BK304.out 2).trans rfl
      have hc3_ : w'.cell? ⟨gb304, 3, none⟩ = some (.bool true) := (blk_cell BK304.out 3).trans rfl
      have hc4_ : w'.cell? ⟨gb304, 4, none⟩ = some (.int .i8 a0_4) := (blk_cell BK304.out 4).trans rfl
      have hc5_ : w'.cell? ⟨gb304, 5, none⟩ = some (.slice A0_5 l0_5.length c0_5) := (blk_cell BK304.out 5).trans rfl
      have hc6_ : w'.cell? ⟨gb304, 6, none⟩ = some (.int .u8 a0_6) := (blk_cell BK304.out 6).trans rfl
      refine value_ (w1 := w') (v := .int .u8 a0_6) (by rfl) rfl ?_ ?_
      ·go_simp
       (try simp only [i64_w])
       try rfl
      refine hK.out _ _ ⟨v307, v310, adz_v310, m11_, m13_, (by rw [ha.out]; exact putSel_upk 6 hb_ rfl rfl rfl), Q_HO0_1, Q_BK304, Q_BK305, Q_HB, Q_HO308, Q_HO311, Q_HA_HO311, fun h0_ => absurd ((hoff 14 (by kernel_rfl)).symm.trans h0_) (by decide), fun h0_ => absurd ((hoff 11 (by kernel_rfl)).symm.trans h0_) (by decide), fun h0_ => absurd ((hoff 13 (by kernel_rfl)).symm.trans h0_) (by decide)⟩
     refine steps_cons ?_ ?_
     ·rintro b a w' ⟨v307, v310, adz_v310, m11_, m13_, ha, Q_HO0_1, Q_BK304, Q_BK305, Q_HB, Q_HO308, Q_HO311, Q_HA_HO311, Q_BK305_e14, Q_X11_, Q_X13_⟩ hb_ hon hoff
      refine ⟨_, rfl, fun K hK => ?_⟩
      have e17 : a.tmps[17]? = some (.int .u8 a0_6) := by rw [ha]; exact putSel_on (e := (9, 17, .int .u8 a0_6)) 6 rfl rfl (hon 9 (by kernel_rfl)) rfl
      replace ha := Aside0.mk ha
      have HO0_1 := Aside0.mk Q_HO0_1
      have BK304 := Aside0.mk Q_BK304
      have BK305 := Aside0.mk (Q_BK305 (hoff 14 (by kernel_rfl)))
      have HB := Aside0.mk Q_HB
      refine value_ (w1 := w') (v := .int .u8 ji4) (by rfl) rfl ?_ ?_
      ·go_simp
       (try simp only [i64_w])
       try rfl
      refine hK.out _ _ ⟨v307, v310, adz_v310, m11_, m13_, (by rw [ha.out]; exact putSel_upk 7 hb_ rfl rfl rfl), Q_HO0_1, Q_BK304, Q_BK305, Q_HB, Q_HO308, Q_HO311, Q_HA_HO311, fun h0_ => absurd ((hoff 14 (by kernel_rfl)).symm.trans h0_) (by decide), fun h0_ => absurd ((hoff 11 (by kernel_rfl)).symm.trans h0_) (by decide), fun h0_ => absurd ((hoff 13 (by kernel_rfl)).symm.trans h0_) (by decide)⟩
     refine steps_cons ?_ ?_
     ·rintro b a w' ⟨v307, v310, adz_v310, m11_, m13_, ha, Q_HO0_1, Q_BK304, Q_BK305, Q_HB, Q_HO308, Q_HO311, Q_HA_HO311, Q_BK305_e14, Q_X11_, Q_X13_⟩ hb_ hon hoff
      refine ⟨_, rfl, fun K hK => ?_⟩
      have e15 : a.tmps[15]? = some (v310) := by rw [ha]; exact putSel_on (e := (7, 15, v310)) 5 rfl rfl (hon 7 (by kernel_rfl)) rfl
      have e18 : a.tmps[18]? = some (.int .u8 ji4) := by rw [ha]; exact putSel_on (e := (10, 18, .int .u8 ji4)) 7 rfl rfl (hon 10 (by kernel_rfl)) rfl
      replace ha := Aside0.mk ha
      have HO0_1 := Aside0.mk Q_HO0_1
      have BK304 := Aside0.mk Q_BK304
      have BK305 := Aside0.mk (Q_BK305 (hoff 14 (by kernel_rfl)))
      have HB := Aside0.mk Q_HB
      have HO311 := Aside0.mk (Q_HO311 (hon 7 (by kernel_rfl)))
      have HA_HO311 := Aside0.mk (Q_HA_HO311 (hon 7 (by kernel_rfl)))
      obtain ⟨c_, hv_⟩ := HA_HO311.out
      rw [hv_] at e15
      refine value_ (w1 := w') (v := .pointer (some (adz_v310.add ((ji4)).toNat))) (by rfl) rfl ?_ ?_
      ·go_simp
       (try simp only [i64_w])
       try rfl
      refine hK.out _ _ ⟨v307, v310, adz_v310, (.pointer (some (adz_v310.add ((ji4)).toNat))), m13_, (by rw [ha.out]; exact putSel_upk 8 hb_ rfl rfl rfl), Q_HO0_1, Q_BK304, Q_BK305, Q_HB, Q_HO308, Q_HO311, Q_HA_HO311, fun h0_ => absurd ((hoff 14 (by kernel_rfl)).symm.trans h0_) (by decide), fun _ => rfl, fun h0_ => absurd ((hoff 13 (by kernel_rfl)).symm.trans h0_) (by decide)⟩
     refine steps_cons ?_ ?_
     ·rintro b a w' ⟨v307, v310, adz_v310, m11_, m13_, ha, Q_HO0_1, Q_BK304, Q_BK305, Q_HB, Q_HO308, Q_HO311, Q_HA_HO311, Q_BK305_e14, Q_X11_, Q_X13_⟩ hb_ hon hoff
      refine ⟨_, rfl, fun K hK => ?_⟩
      have e19 : a.tmps[19]? = some (m11_) := by rw [ha]; exact putSel_on (e := (11, 19, m11_)) 8 rfl rfl (hon 11 (by kernel_rfl)) rfl
      rw [Q_X11_ (hon 11 (by kernel_rfl))] at e19
      replace ha := Aside0.mk ha
      have HO0_1 := Aside0.mk Q_HO0_1
      have BK304 := Aside0.mk Q_BK304
      have BK305 := Aside0.mk (Q_BK305 (hoff 14 (by kernel_rfl)))
      have HB := Aside0.mk Q_HB
      have HO311 := Aside0.mk (Q_HO311 (hon 7 (by kernel_rfl)))
      have HA_HO311 := Aside0.mk (Q_HA_HO311 (hon 7 (by kernel_rfl)))
      obtain ⟨c_, hv_⟩ := HA_HO311.out
      have hF_ := HO311.out
      rw [hv_] at hF_
      obtain ⟨ad_, ea_, hx_⟩ := Kd.at_string (Kd.R_reads' hF_).2.2 (ji4) (of_eq_true pi312) (of_eq_true qi312)
      cases ea_
      refine value_ (w1 := w') (v := .string (rdOf ByteArray.empty y309 (ji4))) (by rfl) rfl ?_ ?_
      ·go_simp
       (try simp only [i64_w])
       try rfl
      refine hK.out _ _ ⟨v307, v310, adz_v310, m11_, m13_, (by rw [ha.out]; exact putSel_upk 9 hb_ rfl rfl rfl), Q_HO0_1, Q_BK304, Q_BK305, Q_HB, Q_HO308, Q_HO311, Q_HA_HO311, fun h0_ => absurd ((hoff 14 (by kernel_rfl)).symm.trans h0_) (by decide), Q_X11_, fun h0_ => absurd ((hoff 13 (by kernel_rfl)).symm.trans h0_) (by decide)⟩
     refine steps_cons ?_ ?_
     ·rintro b a w' ⟨v307, v310, adz_v310, m11_, m13_, ha, Q_HO0_1, Q_BK304, Q_BK305, Q_HB, Q_HO308, Q_HO311, Q_HA_HO311, Q_BK305_e14, Q_X11_, Q_X13_⟩ hb_ hon hoff
      refine ⟨_, rfl, fun K hK => ?_⟩
      have e11 : a.tmps[11]? = some (.int .i64 (wrap64 (Int.tmod a0_4 12))) := by rw [ha]; exact putSel_on (e := (3, 11, .int .i64 (wrap64 (Int.tmod a0_4 12)))) 2 rfl rfl (hon 3 (by kernel_rfl)) rfl
      have e14 : a.tmps[14]? = some (v307) := by rw [ha]; exact putSel_on (e := (6, 14, v307)) 4 rfl rfl (hon 6 (by kernel_rfl)) rfl
      have e20 : a.tmps[20]? = some (.string (rdOf ByteArray.empty y309 (ji4))) := by rw [ha]; exact putSel_on (e := (12, 20, .string (rdOf ByteArray.empty y309 (ji4)))) 9 rfl rfl (hon 12 (by kernel_rfl)) rfl
      replace ha := Aside0.mk ha
      have HO0_1 := Aside0.mk Q_HO0_1
      have BK304 := Aside0.mk Q_BK304
      have BK305 := Aside0.mk (Q_BK305 (hoff 14 (by kernel_rfl)))
      have HB := Aside0.mk Q_HB
      have HO308 := Aside0.mk (Q_HO308 (hon 6 (by kernel_rfl)))
      have HO311 := Aside0.mk (Q_HO311 (hon 7 (by kernel_rfl)))
      have HA_HO311 := Aside0.mk (Q_HA_HO311 (hon 7 (by kernel_rfl)))
      obtain ⟨Ao13_0, co13_0, eo_⟩ := Kd.R_slice HO308.out
      subst eo_
      refine value_ (w1 := w') (v := .agg #[.int .i64 (wrap64 (Int.tmod a0_4 12)), .slice Ao13_0 t306.length co13_0, .string (rdOf ByteArray.empty y309 (ji4))]) (by rfl) rfl ?_ ?_
      ·go_simp
       (try simp only [i64_w])
       try rfl
      refine hK.out _ _ ⟨.slice Ao13_0 t306.length co13_0, v310, adz_v310, m11_, (.agg #[.int .i64 (wrap64 (Int.tmod a0_4 12)), .slice Ao13_0 t306.length co13_0, .string (rdOf ByteArray.empty y309 (ji4))]), (by rw [ha.out]; exact putSel_upk 10 hb_ rfl rfl rfl), Q_HO0_1, Q_BK304, Q_BK305, Q_HB, Q_HO308, Q_HO311, Q_HA_HO311, fun h0_ => absurd ((hoff 14 (by kernel_rfl)).symm.trans h0_) (by decide), Q_X11_, fun _ => rfl⟩
     refine steps_cons ?_ ?_
     ·rintro b a w' ⟨v307, v310, adz_v310, m11_, m13_, ha, Q_HO0_1, Q_BK304, Q_BK305, Q_HB, Q_HO308, Q_HO311, Q_HA_HO311, Q_BK305_e14, Q_X11_, Q_X13_⟩ hb_ hon hoff
      refine ⟨_, rfl, fun K hK => ?_⟩
      have e2 : a.tmps[2]? = some (.pointer (some ⟨gb305, 0, none⟩)) := by rw [ha]; exact (putSel_off rfl).trans rfl
      have e21 : a.tmps[21]? = some (m13_) := by rw [ha]; exact putSel_on (e := (13, 21, m13_)) 10 rfl rfl (hon 13 (by kernel_rfl)) rfl
      rw [Q_X13_ (hon 13 (by kernel_rfl))] at e21
      replace ha := Aside0.mk ha
      have HO0_1 := Aside0.mk Q_HO0_1
      have BK304 := Aside0.mk Q_BK304
      have BK305 := Aside0.mk (Q_BK305 hb_)
      have HB := Aside0.mk Q_HB
      have HO308 := Aside0.mk (Q_HO308 (hon 6 (by kernel_rfl)))
      have HO311 := Aside0.mk (Q_HO311 (hon 7 (by kernel_rfl)))
      have HA_HO311 := Aside0.mk (Q_HA_HO311 (hon 7 (by kernel_rfl)))
      obtain ⟨co18, eo18⟩ := HA_HO311.out
      clear HA_HO311
      subst eo18
      obtain ⟨Ao19, co19, eo19⟩ := Kd.R_slice HO308.out
      (first | subst eo19 | (injection eo19 with f1_ f2_ f3_; have f4_ := f1_.symm; have f5_ := f3_.symm; clear f1_ f2_ f3_; subst f4_; subst f5_))
      have hs20 : w'.cell? ⟨gb305, 0, none⟩ = some (.int .i64 0) := (blk_cell BK305.out 0).trans rfl
      have hfs20 := blk_frozen BK305.out 0
      have hns20_0 := NB304_305.out
      have hms20_0 := NB305_304.out
      have hs21 : w'.cell? ⟨gb305, 1, none⟩ = some (.slice none 0 0) := (blk_cell BK305.out 1).trans rfl
      have hfs21 := blk_frozen BK305.out 1
      have hns21_0 := NB304_305.out
      have hms21_0 := NB305_304.out
      have hs22 : w'.cell? ⟨gb305, 2, none⟩ = some (.string (⟨#[]⟩ : ByteArray)) := (blk_cell BK305.out 2).trans rfl
      have hfs22 := blk_frozen BK305.out 2
      have hns22_0 := NB304_305.out
      have hms22_0 := NB305_304.out
      refine skip_ (w1 := ?_) (by rfl) rfl ?_ ?_
      rotate_left
      ·go_simp
       rfl
      refine hK.out _ _ ⟨.slice Ao19 t306.length co19, .slice (some adz_v310) y309.length co18, adz_v310, m11_, m13_, (by rw [ha.out]; exact putSel_none (v := undef) rfl), (by (with_reducible repeat (first | apply Kd.V_alloc | apply Kd.V_drewN | apply Kd.V_drew)); exact Kd.V_mono (Kd.V_far (p := ⟨gb305, 2, none⟩) (Kd.V_far (p := ⟨gb305, 1, none⟩) (Kd.V_far (p := ⟨gb305, 0, none⟩) (Kd.V_mono HO0_1.out (fun k_ hk => (⟨hk, by first | exact hk.2.2.2.2 | grind⟩ : _ ∧ k_ ≠ gb305))) (fun _ hk => hk.2) (.int .i64 (wrap64 (Int.tmod a0_4 12)))) (fun _ hk => hk.2) (.slice Ao19 t306.length co19)) (fun _ hk => hk.2) (.string (rdOf ByteArray.empty y309 (ji4)))) (fun _ hk => by first | exact ⟨hk.1.1, ⟨hk.1.2.1, ⟨hk.1.2.2.1, ⟨hk.1.2.2.2.1, hk.1.2.2.2.2⟩⟩⟩⟩ | grind)), (by (with_reducible repeat (first | refine blk_drewN ?_ _ | refine blk_drew ?_ | refine blk_alloc ?_ _)); refine blk_far ?_ NB304_305.out _; (with_reducible repeat (first | refine blk_drewN ?_ _ | refine blk_drew ?_ | refine blk_alloc ?_ _)); refine blk_far ?_ NB304_305.out _; (with_reducible repeat (first | refine blk_drewN ?_ _ | refine blk_drew ?_ | refine blk_alloc ?_ _)); refine blk_far ?_ NB304_305.out _; (with_reducible repeat (first | refine blk_drewN ?_ _ | refine blk_drew ?_ | refine blk_alloc ?_ _)); exact BK304.out), fun h0_ => absurd ((up_self b 14).symm.trans h0_) (by decide), (by repeat (first | (with_reducible first | exact HB.out | apply below_alloc | apply pw_below_drewN | apply below_drew1 | refine below_set ?_ GE304.out | refine below_set ?_ GE305.out) | exact HB.out)), fun _ => (by (with_reducible repeat (first | apply Kd.R_alloc | apply Kd.R_drewN | apply Kd.R_drew)); exact Kd.R_mono (Kd.R_far (p := ⟨gb305, 2, none⟩) (Kd.R_far (p := ⟨gb305, 1, none⟩) (Kd.R_far (p := ⟨gb305, 0, none⟩) (Kd.R_types HO308.out BK305.out (by decide)) (fun _ hk => hk.2) (.int .i64 (wrap64 (Int.tmod a0_4 12)))) (fun _ hk => hk.2) (.slice Ao19 t306.length co19)) (fun _ hk => hk.2) (.string (rdOf ByteArray.empty y309 (ji4)))) (fun _ hk => hk.1)), fun _ => (by (with_reducible repeat (first | apply Kd.R_alloc | apply Kd.R_drewN | apply Kd.R_drew)); exact Kd.R_mono (Kd.R_far (p := ⟨gb305, 2, none⟩) (Kd.R_far (p := ⟨gb305, 1, none⟩) (Kd.R_far (p := ⟨gb305, 0, none⟩) (Kd.R_types HO311.out BK305.out (by decide)) (fun _ hk => hk.2) (.int .i64 (wrap64 (Int.tmod a0_4 12)))) (fun _ hk => hk.2) (.slice Ao19 t306.length co19)) (fun _ hk => hk.2) (.string (rdOf ByteArray.empty y309 (ji4)))) (fun _ hk => hk.1)), fun _ => ⟨_, rfl⟩, fun _ => (by (with_reducible repeat (first | refine blk_drewN ?_ _ | refine blk_drew ?_ | refine blk_alloc ?_ _)); refine blk_put (cs := #[.int .i64 (wrap64 (Int.tmod a0_4 12)), .slice Ao19 t306.length co19, .string (⟨#[]⟩ : ByteArray)]) ?_ 2 _ rfl; (with_reducible repeat (first | refine blk_drewN ?_ _ | refine blk_drew ?_ | refine blk_alloc ?_ _)); refine blk_put (cs := #[.int .i64 (wrap64 (Int.tmod a0_4 12)), .slice none 0 0, .string (⟨#[]⟩ : ByteArray)]) ?_ 1 _ rfl; (with_reducible repeat (first | refine blk_drewN ?_ _ | refine blk_drew ?_ | refine blk_alloc ?_ _)); refine blk_put (cs := #[.int .i64 0, .slice none 0 0, .string (⟨#[]⟩ : ByteArray)]) ?_ 0 _ rfl; (with_reducible repeat (first | refine blk_drewN ?_ _ | refine blk_drew ?_ | refine blk_alloc ?_ _)); exact BK305.out), Q_X11_, Q_X13_⟩
     exact steps_nil
    rintro b a w20 hall ⟨v307, v310, adz_v310, m11_, m13_, ha, Q_HO0_1, Q_BK304, Q_BK305, Q_HB, Q_HO308, Q_HO311, Q_HA_HO311, Q_BK305_e14, Q_X11_, Q_X13_⟩
    clear BK304 BK305 HB HO0_1
    have hb1_ := hall 1 (by kernel_rfl)
    have hb2_ := hall 2 (by kernel_rfl)
    have hb3_ := hall 3 (by kernel_rfl)
    have hb5_ := hall 5 (by kernel_rfl)
    have hb6_ := hall 6 (by kernel_rfl)
    have hb7_ := hall 7 (by kernel_rfl)
    have hb9_ := hall 9 (by kernel_rfl)
    have hb10_ := hall 10 (by kernel_rfl)
    have hb11_ := hall 11 (by kernel_rfl)
    have hb12_ := hall 12 (by kernel_rfl)
    have hb13_ := hall 13 (by kernel_rfl)
    have hb14_ := hall 14 (by kernel_rfl)
    subst ha
    obtain rfl := Q_X11_ hb11_
    obtain rfl := Q_X13_ hb13_
    simp only [putSel, hb1_, hb2_, hb3_, hb5_, hb6_, hb7_, hb9_, hb10_, hb11_, hb12_, hb13_, hb14_, if_true, Act.put, List.setIfInBounds_toArray, List.set_cons_zero, List.set_cons_succ]
    have HO0_1 := Aside0.mk Q_HO0_1
    clear Q_HO0_1
    have BK304 := Aside0.mk Q_BK304
    clear Q_BK304
    clear Q_BK305
    have HB := Aside0.mk Q_HB
    clear Q_HB
    have HO308 := Aside0.mk (Q_HO308 hb6_)
    clear Q_HO308
    have HO311 := Aside0.mk (Q_HO311 hb7_)
    clear Q_HO311
    have HA_HO311 := Aside0.mk (Q_HA_HO311 hb7_)
    clear Q_HA_HO311
    have BK305 := Aside0.mk (Q_BK305_e14 hb14_)
    clear Q_BK305_e14
    clear hall hb1_ hb2_ hb3_ hb5_ hb6_ hb7_ hb9_ hb10_ hb11_ hb12_ hb13_ hb14_
    obtain ⟨co21, eo21⟩ := HA_HO311.out
    clear HA_HO311
    subst eo21
    obtain ⟨Ao22, co22, eo22⟩ := Kd.R_slice HO308.out
    (first | subst eo22 | (injection eo22 with f1_ f2_ f3_; have f4_ := f1_.symm; have f5_ := f3_.symm; clear f1_ f2_ f3_; subst f4_; subst f5_))
    try go_wp2
    refine bodyPost_ret (results_cell_row rfl _ _ gb305 25 #[.int .i64 (wrap64 (Int.tmod a0_4 12)), .slice Ao22 t306.length co22, .string (rdOf ByteArray.empty y309 (ji4))] (0, 0) _ rfl (bz BK305.out) Tryd.underlying25 rfl (by kernel_rfl)) rfl ?_
    exact ⟨_, by first | rfl | (simp [errW_none, errW_some] <;> rfl) | (simp only [← hji4]; first | rfl | (simp [errW_none, errW_some] <;> rfl)) | (simp [*, errW_none, errW_some] <;> rfl), Kd.V_mono (Kd.R_V (rz HO308.out)) (fun k_ hk => by first | exact ⟨(.inr (hk.1)), hk.2⟩ | exact (.inr (hk))), by repeat (first | (with_reducible first | exact HB.out | apply below_alloc | apply pw_below_drewN | apply below_drew1 | refine below_set ?_ GE304.out | refine below_set ?_ GE305.out) | exact HB.out)⟩
   ·rw [if_neg c6] at H
    exact absurd H (by simp)
  ·rw [if_neg c5] at H
   exact absurd H (by simp)
 ·replace c2 := Bool.eq_false_iff.mpr c2
  subst c2
  have H1 : (some (a0_0, l0_1, a0_2)) = some (r1, r2, r3) := by rw [if_neg (show ¬ (false = true) by decide)] at H; exact H
  clear H
  have H := H1
  clear H1
  simp only [Option.some.injEq, Prod.mk.injEq] at H
  obtain ⟨rfl, rfl, rfl⟩ := H
  go_enter Tryd.func8, Tryd.ntmps8
  go_wp2_with (first | ((with_reducible refine gate_dst (N := 1) rfl ?_); refine box_event ?hg (N := 1) ?hd (cs := #[.int .i64 a0_0, .slice A0_1 l0_1.length c0_1, .string a0_2, .bool false, .int .i8 a0_4, .slice A0_5 l0_5.length c0_5, .int .u8 a0_6]) (t := 29) ?hr ?_; (case hd => rfl); (case hg => rfl); (case hr => first | (go_simp; done) | (go_simp; rfl)); intro gb304 hg w23 hbox hb; have n0_ := Aside0.mk (Kd.V_below (Kd.V_elderB (by (with_reducible repeat (first | apply Kd.V_alloc | apply Kd.V_drewN | apply Kd.V_drew)); exact HO0_1.out) gb304 (Nat.le_of_eq hg.symm)) hb); have n1_ := Aside0.mk (below_step bl hb); have n2_ := Aside0.mk (hbox); have n3_ := Aside0.mk ((by rw [hg]; exact (below_size bl) : w.heap.size ≤ gb304)); have n4_ := Aside0.mk ((by rw [hg]; exact (below_size bl) : w.heap.size ≤ gb304)); clear HO0_1; clear HB; have HO0_1 := n0_; have HB := n1_; have BK304 := n2_; have GW304 := n3_; have GE304 := n4_; clear n0_ n1_ n2_ n3_ n4_; clear hb hbox hg) | ((with_reducible refine gate_dst (N := 2) rfl ?_); refine box_event ?hg (N := 2) ?hd (cs := #[.int .i64 0, .slice none 0 0, .string (⟨#[]⟩ : ByteArray)]) (t := 25) ?hr ?_; (case hd => rfl); (case hg => rfl); (case hr => first | (go_simp; done) | (go_simp; rfl)); intro gb305 hg w24 hbox hb; have n0_ := Aside0.mk (Kd.V_below (Kd.V_elderB (by (with_reducible repeat (first | apply Kd.V_alloc | apply Kd.V_drewN | apply Kd.V_drew)); exact HO0_1.out) gb305 (Nat.le_of_eq hg.symm)) hb); have n1_ := Aside0.mk (blk_below (g := gb304) (o := .cells #[.int .i64 a0_0, .slice A0_1 l0_1.length c0_1, .string a0_2, .bool false, .int .i8 a0_4, .slice A0_5 l0_5.length c0_5, .int .u8 a0_6] 29 (0, 0)) (bz BK304.out) hb); have n2_ := Aside0.mk (below_step (by repeat (first | (with_reducible first | exact HB.out | apply below_alloc | apply pw_below_drewN | apply below_drew1 | refine below_set ?_ GE304.out) | exact HB.out)) hb); have n3_ := Aside0.mk (hbox); have n4_ := Aside0.mk ((by rw [hg]; exact (below_size (by repeat (first | (with_reducible first | exact HB.out | apply below_alloc | apply pw_below_drewN | apply below_drew1 | refine below_set ?_ GE304.out) | exact HB.out))) : w.heap.size ≤ gb305)); have n5_ := Aside0.mk ((by rw [hg]; exact (below_size (by repeat (first | (with_reducible first | exact HB.out | apply below_alloc | apply pw_below_drewN | apply below_drew1 | refine below_set ?_ GE304.out) | exact HB.out))) : w.heap.size ≤ gb305)); have n6_ := Aside0.mk ((by rw [hg]; exact Nat.ne_of_lt (blk_lt (g := gb304) (o := .cells #[.int .i64 a0_0, .slice A0_1 l0_1.length c0_1, .string a0_2, .bool false, .int .i8 a0_4, .slice A0_5 l0_5.length c0_5, .int .u8 a0_6] 29 (0, 0)) (bz BK304.out)) : gb304 ≠ gb305)); have n7_ := Aside0.mk ((by rw [hg]; exact Nat.ne_of_gt (blk_lt (g := gb304) (o := .cells #[.int .i64 a0_0, .slice A0_1 l0_1.length c0_1, .string a0_2, .bool false, .int .i8 a0_4, .slice A0_5 l0_5.length c0_5, .int .u8 a0_6] 29 (0, 0)) (bz BK304.out)) : gb305 ≠ gb304)); clear HO0_1; clear BK304; clear HB; have HO0_1 := n0_; have BK304 := n1_; have HB := n2_; have BK305 := n3_; have GW305 := n4_; have GE305 := n5_; have NB304_305 := n6_; have NB305_304 := n7_; clear n0_ n1_ n2_ n3_ n4_ n5_ n6_ n7_; clear hb hbox hg; have hnb25 := NB304_305.out; have hnc25 := NB305_304.out; have hcz26_0 : w24.cell? ⟨gb304, 0, none⟩ = some (.int .i64 a0_0) := (blk_cell BK304.out 0).trans rfl; have hcz26_1 : w24.cell? ⟨gb304, 1, none⟩ = some (.slice A0_1 l0_1.length c0_1) := (blk_cell BK304.out 1).trans rfl; have hcz26_2 : w24.cell? ⟨gb304, 2, none⟩ = some (.string a0_2) := (blk_cell BK304.out 2).trans rfl; have hcz26_3 : w24.cell? ⟨gb304, 3, none⟩ = some (.bool false) := (blk_cell BK304.out 3).trans rfl; have hcz26_4 : w24.cell? ⟨gb304, 4, none⟩ = some (.int .i8 a0_4) := (blk_cell BK304.out 4).trans rfl; have hcz26_5 : w24.cell? ⟨gb304, 5, none⟩ = some (.slice A0_5 l0_5.length c0_5) := (blk_cell BK304.out 5).trans rfl; have hcz26_6 : w24.cell? ⟨gb304, 6, none⟩ = some (.int .u8 a0_6) := (blk_cell BK304.out 6).trans rfl; have hfz26_0 := blk_frozen BK304.out 0; have hfz26_1 := blk_frozen BK304.out 1; have hfz26_2 := blk_frozen BK304.out 2; have hfz26_3 := blk_frozen BK304.out 3; have hfz26_4 := blk_frozen BK304.out 4; have hfz26_5 := blk_frozen BK304.out 5; have hfz26_6 := blk_frozen BK304.out 6; have hcz27_0 : w24.cell? ⟨gb305, 0, none⟩ = some (.int .i64 0) := (blk_cell BK305.out 0).trans rfl; have hcz27_1 : w24.cell? ⟨gb305, 1, none⟩ = some (.slice none 0 0) := (blk_cell BK305.out 1).trans rfl; have hcz27_2 : w24.cell? ⟨gb305, 2, none⟩ = some (.string (⟨#[]⟩ : ByteArray)) := (blk_cell BK305.out 2).trans rfl; have hfz27_0 := blk_frozen BK305.out 0; have hfz27_1 := blk_frozen BK305.out 1; have hfz27_2 := blk_frozen BK305.out 2))
  refine bodyPost_ret (results_cell_row rfl _ _ gb305 25 #[.int .i64 a0_0, .slice A0_1 l0_1.length c0_1, .string a0_2] (0, 0) _ rfl (by (with_reducible repeat (first | refine blk_drewN ?_ _ | refine blk_drew ?_ | refine blk_alloc ?_ _)); refine blk_put (cs := #[.int .i64 a0_0, .slice A0_1 l0_1.length c0_1, .string (⟨#[]⟩ : ByteArray)]) ?_ 2 _ rfl; (with_reducible repeat (first | refine blk_drewN ?_ _ | refine blk_drew ?_ | refine blk_alloc ?_ _)); refine blk_put (cs := #[.int .i64 a0_0, .slice none 0 0, .string (⟨#[]⟩ : ByteArray)]) ?_ 1 _ rfl; (with_reducible repeat (first | refine blk_drewN ?_ _ | refine blk_drew ?_ | refine blk_alloc ?_ _)); refine blk_put (cs := #[.int .i64 0, .slice none 0 0, .string (⟨#[]⟩ : ByteArray)]) ?_ 0 _ rfl; (with_reducible repeat (first | refine blk_drewN ?_ _ | refine blk_drew ?_ | refine blk_alloc ?_ _)); exact BK305.out) Tryd.underlying25 rfl (by kernel_rfl)) rfl ?_
  exact ⟨_, by first | rfl | (simp [errW_none, errW_some] <;> rfl) | (simp [*, errW_none, errW_some] <;> rfl), by (with_reducible repeat (first | apply Kd.V_alloc | apply Kd.V_drewN | apply Kd.V_drew)); exact Kd.V_mono (Kd.V_far (p := ⟨gb305, 2, none⟩) (Kd.V_far (p := ⟨gb305, 1, none⟩) (Kd.V_far (p := ⟨gb305, 0, none⟩) (Kd.V_mono HO0_1.out (fun k_ hk => (⟨hk, by first | exact hk.2 | grind⟩ : _ ∧ k_ ≠ gb305))) (fun _ hk => hk.2) (.int .i64 a0_0)) (fun _ hk => hk.2) (.slice A0_1 l0_1.length c0_1)) (fun _ hk => hk.2) (.string a0_2)) (fun _ hk => hk.1.1.1), by repeat (first | (with_reducible first | exact HB.out | apply below_alloc | apply pw_below_drewN | apply below_drew1 | refine below_set ?_ GE304.out | refine below_set ?_ GE305.out) | exact HB.out)⟩

end Go.Proofs.YtjmbddgbojcpmaaDoor.X
