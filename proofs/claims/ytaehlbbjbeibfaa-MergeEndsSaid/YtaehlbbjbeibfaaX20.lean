-- Laid by xprint.py, a program of this session's, out of the translation.
import Derived.Test.YtaehlbbjbeibfaaX61
import Derived.Test.YtaehlbbjbeibfaaX60
import Derived.Test.YtaehlbbjbeibfaaX0
import Derived.Test.YtaehlbbjbeibfaaX2
import Derived.Test.YtaehlbbjbeibfaaX4
import Derived.Test.YtaehlbbjbeibfaaX12
namespace Go.Proofs.Ytaehlbbjbeibfaa.X
open Go.RowKit Go.Proofs.YtaehlbbjbeibfaaW.PrintWords Go.Proofs.YtaehlbbjbeibfaaW.PrintLast Go.Proofs.YtaehlbbjbeibfaaW.PrintMore
attribute [local go_sem] max2_int min2_int max_two min_two max_three min_three max_four min_four x_isSome x_str_gtr x_str_leq x_str_geq   -- for this text's walks alone
set_option linter.unusedVariables false
set_option linter.unusedSimpArgs false

/-! ### archivistlaw16_MergeEnds: function 6 -/
def archivistlaw16_MergeEnds.l0 : Nat → Bool → Bool → List (S26) → List (S26) → Bool → Int → Int → Int → List (S103) → ByteArray → Int → List (S103) → ByteArray → Option (Bool)
  | 0, _, _, _, _, _, _, _, _, _, _, _, _, _ => none
  | k + 1, x2, x7, x8, x10, x12, x13, x14, x496000, x496001, x496002, x506000, x506001, x506002 => if x14 < (x8.length : Int) then (if 0 ≤ x14 then ((entry_Ahead.f k ((rd_T26 x8 x14).f0) ((rd_T26 x8 x14).f1) ((rd_T26 x8 x14).f2) x506000 x506001 x506002 x2).bind fun t507 => (if t507 = true then (none) else ((entry_Ahead.f k x496000 x496001 x496002 ((rd_T26 x8 x14).f0) ((rd_T26 x8 x14).f1) ((rd_T26 x8 x14).f2) x2).bind fun t509 => (if t509 = true then (archivistlaw16_MergeEnds.l0 k x2 x7 x8 x10 x12 x13 (wrap64 (x14 + 1)) x496000 x496001 x496002 x506000 x506001 x506002) else (if x13 ≥ (x10.length : Int) then (none) else (if 0 ≤ x13 then (if x13 < (x10.length : Int) then ((entry_Same.f k ((rd_T26 x10 x13).f0) ((rd_T26 x10 x13).f1) ((rd_T26 x10 x13).f2) ((rd_T26 x8 x14).f0) ((rd_T26 x8 x14).f1) ((rd_T26 x8 x14).f2)).bind fun t512 => (if t512 = true then (archivistlaw16_MergeEnds.l0 k x2 x7 x8 x10 x12 (wrap64 (x13 + 1)) (wrap64 (x14 + 1)) x496000 x496001 x496002 x506000 x506001 x506002) else (none))) else (none)) else (none))))))) else (none)) else (if x7 = true then (if x13 = (x10.length : Int) then (some (x12 == (decide ((x8.length : Int) > 0)))) else (none)) else (none))
def archivistlaw16_MergeEnds.f (k : Nat) (l0 : List (S30)) (a1_0 : Int) (l1_1 : List (S103)) (a1_2 : ByteArray) (a1_3 : Bool) (a1_4 : Int) (l1_5 : List (S105)) (a1_6 : Int) (a2 : Bool) : Option (Bool) := (archivistlaw16_examples.f k).bind fun t486 => (if t486 = true then ((archivistlaw16_items.f k l0 10).bind fun t487 => ((archivistlaw16_Item_item.f k a1_0 l1_1 a1_2 a1_3 a1_4 l1_5 a1_6).bind fun bt490 => ((merge_Upto.f k a2 bt490.1 bt490.2.1 bt490.2.2 t487).bind fun t496 => ((merge_First.f k a2 t487).bind fun bt499 => (archivistlaw16_MergeEnds.l0 k a2 t486 t487 t496 bt499.2.2.2 0 0 bt490.1 bt490.2.1 bt490.2.2 bt499.1 bt499.2.1 bt499.2.2.1))))) else (none))
theorem archivistlaw16_MergeEnds.mono_l : ∀ k, (∀ y0 y1 y2 y3 y4 y5 y6 y7 y8 y9 y10 y11 y12, LeO (archivistlaw16_MergeEnds.l0 k y0 y1 y2 y3 y4 y5 y6 y7 y8 y9 y10 y11 y12) (archivistlaw16_MergeEnds.l0 (k + 1) y0 y1 y2 y3 y4 y5 y6 y7 y8 y9 y10 y11 y12))
  | 0 => fun _ _ _ _ _ _ _ _ _ _ _ _ _ r h => by simp [archivistlaw16_MergeEnds.l0] at h
  | k + 1 => by
    have ih0 := archivistlaw16_MergeEnds.mono_l k
    · intro y0 y1 y2 y3 y4 y5 y6 y7 y8 y9 y10 y11 y12
      unfold archivistlaw16_MergeEnds.l0
      repeat' first
      | (with_reducible exact ih0 _ _ _ _ _ _ _ _ _ _ _ _ _)
      | (with_reducible exact archivistlaw16_Item_item.mono _ _ _ _ _ _ _ _)
      | (with_reducible exact archivistlaw16_examples.mono _)
      | (with_reducible exact archivistlaw16_items.mono _ _ _)
      | (with_reducible exact entry_Ahead.mono _ _ _ _ _ _ _ _)
      | (with_reducible exact entry_Same.mono _ _ _ _ _ _ _)
      | (with_reducible exact merge_First.mono _ _ _)
      | (with_reducible exact merge_Upto.mono _ _ _ _ _ _)
      | (with_reducible exact LeO.refl _)
      | (with_reducible exact LeO.none _)
      | (with_reducible refine LeO.ite ?_ ?_)
      | (with_reducible refine LeO.bind ?_ (fun _ => ?_))
      | exact ih0 _ _ _ _ _ _ _ _ _ _ _ _ _
      | exact archivistlaw16_Item_item.mono _ _ _ _ _ _ _ _
      | exact archivistlaw16_examples.mono _
      | exact archivistlaw16_items.mono _ _ _
      | exact entry_Ahead.mono _ _ _ _ _ _ _ _
      | exact entry_Same.mono _ _ _ _ _ _ _
      | exact merge_First.mono _ _ _
      | exact merge_Upto.mono _ _ _ _ _ _
      | exact LeO.none _
      | refine LeO.ite ?_ ?_
      | refine LeO.bind ?_ (fun _ => ?_)
theorem archivistlaw16_MergeEnds.mono : ∀ a0 a1 a2 a3 a4 a5 a6 a7 a8 k, LeO (archivistlaw16_MergeEnds.f k a0 a1 a2 a3 a4 a5 a6 a7 a8) (archivistlaw16_MergeEnds.f (k + 1) a0 a1 a2 a3 a4 a5 a6 a7 a8) := by
  intro a0 a1 a2 a3 a4 a5 a6 a7 a8 k
  have ih0 := archivistlaw16_MergeEnds.mono_l k
  unfold archivistlaw16_MergeEnds.f
  repeat' first
      | (with_reducible exact ih0 _ _ _ _ _ _ _ _ _ _ _ _ _)
      | (with_reducible exact archivistlaw16_Item_item.mono _ _ _ _ _ _ _ _)
      | (with_reducible exact archivistlaw16_examples.mono _)
      | (with_reducible exact archivistlaw16_items.mono _ _ _)
      | (with_reducible exact entry_Ahead.mono _ _ _ _ _ _ _ _)
      | (with_reducible exact entry_Same.mono _ _ _ _ _ _ _)
      | (with_reducible exact merge_First.mono _ _ _)
      | (with_reducible exact merge_Upto.mono _ _ _ _ _ _)
      | (with_reducible exact LeO.refl _)
      | (with_reducible exact LeO.none _)
      | (with_reducible refine LeO.ite ?_ ?_)
      | (with_reducible refine LeO.bind ?_ (fun _ => ?_))
      | exact ih0 _ _ _ _ _ _ _ _ _ _ _ _ _
      | exact archivistlaw16_Item_item.mono _ _ _ _ _ _ _ _
      | exact archivistlaw16_examples.mono _
      | exact archivistlaw16_items.mono _ _ _
      | exact entry_Ahead.mono _ _ _ _ _ _ _ _
      | exact entry_Same.mono _ _ _ _ _ _ _
      | exact merge_First.mono _ _ _
      | exact merge_Upto.mono _ _ _ _ _ _
      | exact LeO.none _
      | refine LeO.ite ?_ ?_
      | refine LeO.bind ?_ (fun _ => ?_)
def archivistlaw16_MergeEnds.T15 : Bool × List (List Nat × List Nat) := (true, [([], []), ([], []), ([1], [1]), ([0, 2], [0, 2]), ([3], [3]), ([4], [4]), ([4], [4]), ([5, 6, 4], [4, 5, 6]), ([7, 4], [4, 7]), ([4], [4]), ([4], [4]), ([9, 10, 4], [4, 9, 10]), ([11, 4], [4, 11]), ([8, 12, 4, 4], [4, 8, 12]), ([13, 4], [4, 13]), ([4, 14], [4, 14])])
def archivistlaw16_MergeEnds.B15 : List Nat := [0, 0, 2, 7, 15, 31, 31, 127, 255, 31, 31, 1567, 3615, 8191, 16383, 32767]
theorem archivistlaw16_MergeEnds.tab15 : rtab .any (opsOf Try.f6 15) = archivistlaw16_MergeEnds.T15 := by kernel_rfl
theorem archivistlaw16_MergeEnds.bits15 : waitsOk archivistlaw16_MergeEnds.T15.2 archivistlaw16_MergeEnds.B15 = true := by kernel_rfl
set_option maxHeartbeats 8000000 in
set_option maxRecDepth 100000 in
theorem archivistlaw16_MergeEnds.calls (k : Nat) (A0 : Option Addr) (c0 : Nat) (l0 : List (S30)) (a1_0 : Int) (A1_1 : Option Addr) (c1_1 : Nat) (l1_1 : List (S103)) (a1_2 : ByteArray) (a1_3 : Bool) (a1_4 : Int) (A1_5 : Option Addr) (c1_5 : Nat) (l1_5 : List (S105)) (a1_6 : Int) (a2 : Bool) (r : Bool) (w : World) (hr0 : Kd.C k30 w A0 l0.length l0) (hc0 : l0.length ≤ c0) (hr1_1 : Kd.C k103 w A1_1 l1_1.length l1_1) (hc1_1 : l1_1.length ≤ c1_1) (hr1_5 : Kd.C k105 w A1_5 l1_5.length l1_5) (hc1_5 : l1_5.length ≤ c1_5) (h : archivistlaw16_MergeEnds.f k l0 a1_0 l1_1 a1_2 a1_3 a1_4 l1_5 a1_6 a2 = some r) :
    Calls Try.prog 6 #[.slice A0 l0.length c0, .agg #[.int .i64 a1_0, .slice A1_1 l1_1.length c1_1, .string a1_2, .bool a1_3, .int .i8 a1_4, .slice A1_5 l1_5.length c1_5, .int .u8 a1_6], .bool a2] w fun e w' => e = .returned (.bool r) ∧ Below w.heap.size w w' := by
  have hu30 := Try.underlying30
  have hu26 := Try.underlying26
  have HR0 := Aside0.mk hr0
  have HC0 := Aside0.mk hc0
  clear hr0 hc0
  have HR1_1 := Aside0.mk hr1_1
  have HC1_1 := Aside0.mk hc1_1
  clear hr1_1 hc1_1
  have HR1_5 := Aside0.mk hr1_5
  have HC1_5 := Aside0.mk hc1_5
  clear hr1_5 hc1_5
  have HB := Aside0.mk (Below.refl w.heap.size w)
  have H : ((archivistlaw16_examples.f k).bind fun t486 => (if t486 = true then ((archivistlaw16_items.f k l0 10).bind fun t487 => ((archivistlaw16_Item_item.f k a1_0 l1_1 a1_2 a1_3 a1_4 l1_5 a1_6).bind fun bt490 => ((merge_Upto.f k a2 bt490.1 bt490.2.1 bt490.2.2 t487).bind fun t496 => ((merge_First.f k a2 t487).bind fun bt499 => (archivistlaw16_MergeEnds.l0 k a2 t486 t487 t496 bt499.2.2.2 0 0 bt490.1 bt490.2.1 bt490.2.2 bt499.1 bt499.2.1 bt499.2.2.1))))) else (none))) = some r := h
  clear h
  replace H := Option.bind_eq_some_iff.mp H
  obtain ⟨t486, A40, H⟩ := H
  replace H : (if t486 = true then ((archivistlaw16_items.f k l0 10).bind fun t487 => ((archivistlaw16_Item_item.f k a1_0 l1_1 a1_2 a1_3 a1_4 l1_5 a1_6).bind fun bt490 => ((merge_Upto.f k a2 bt490.1 bt490.2.1 bt490.2.2 t487).bind fun t496 => ((merge_First.f k a2 t487).bind fun bt499 => (archivistlaw16_MergeEnds.l0 k a2 t486 t487 t496 bt499.2.2.2 0 0 bt490.1 bt490.2.1 bt490.2.2 bt499.1 bt499.2.1 bt499.2.2.1))))) else (none)) = some r := H
  have A4 := Aside0.mk A40
  clear A40
  by_cases c5 : t486 = true
  · subst c5
    have H1 : ((archivistlaw16_items.f k l0 10).bind fun t487 => ((archivistlaw16_Item_item.f k a1_0 l1_1 a1_2 a1_3 a1_4 l1_5 a1_6).bind fun bt490 => ((merge_Upto.f k a2 bt490.1 bt490.2.1 bt490.2.2 t487).bind fun t496 => ((merge_First.f k a2 t487).bind fun bt499 => (archivistlaw16_MergeEnds.l0 k a2 true t487 t496 bt499.2.2.2 0 0 bt490.1 bt490.2.1 bt490.2.2 bt499.1 bt499.2.1 bt499.2.2.1))))) = some r := by rw [if_pos rfl] at H; exact H
    clear H
    have H := H1
    clear H1
    replace H := Option.bind_eq_some_iff.mp H
    obtain ⟨t487, A60, H⟩ := H
    replace H : ((archivistlaw16_Item_item.f k a1_0 l1_1 a1_2 a1_3 a1_4 l1_5 a1_6).bind fun bt490 => ((merge_Upto.f k a2 bt490.1 bt490.2.1 bt490.2.2 t487).bind fun t496 => ((merge_First.f k a2 t487).bind fun bt499 => (archivistlaw16_MergeEnds.l0 k a2 true t487 t496 bt499.2.2.2 0 0 bt490.1 bt490.2.1 bt490.2.2 bt499.1 bt499.2.1 bt499.2.2.1)))) = some r := H
    have A6 := Aside0.mk A60
    clear A60
    replace H := Option.bind_eq_some_iff.mp H
    obtain ⟨⟨t490, t491, t494⟩, A70, H⟩ := H
    replace H : ((merge_Upto.f k a2 t490 t491 t494 t487).bind fun t496 => ((merge_First.f k a2 t487).bind fun bt499 => (archivistlaw16_MergeEnds.l0 k a2 true t487 t496 bt499.2.2.2 0 0 t490 t491 t494 bt499.1 bt499.2.1 bt499.2.2.1))) = some r := H
    have A7 := Aside0.mk A70
    clear A70
    replace H := Option.bind_eq_some_iff.mp H
    obtain ⟨t496, A80, H⟩ := H
    replace H : ((merge_First.f k a2 t487).bind fun bt499 => (archivistlaw16_MergeEnds.l0 k a2 true t487 t496 bt499.2.2.2 0 0 t490 t491 t494 bt499.1 bt499.2.1 bt499.2.2.1)) = some r := H
    have A8 := Aside0.mk A80
    clear A80
    replace H := Option.bind_eq_some_iff.mp H
    obtain ⟨⟨t499, t500, t503, t504⟩, A90, H⟩ := H
    replace H : (archivistlaw16_MergeEnds.l0 k a2 true t487 t496 t504 0 0 t490 t491 t494 t499 t500 t503) = some r := H
    have A9 := Aside0.mk A90
    clear A90
    have H' := Aside0.mk H
    clear H
    go_enter Try.func6, Try.ntmps6
    go_wp2_with (first | ((with_reducible refine gate_dst (N := 4) rfl ?_); (try (refine gate_guard (by rfl) ?_; dsimp only)); refine box_event ?hg (N := 4) ?hd (cs := #[.int .i64 a1_0, .slice A1_1 l1_1.length c1_1, .string a1_2, .bool a1_3, .int .i8 a1_4, .slice A1_5 l1_5.length c1_5, .int .u8 a1_6]) (t := 30) ?hr ?_; (case hd => rfl); (case hg => rfl); (case hr => first | (go_simp; done) | (go_simp; rfl)); intro gb485 hg w10 hbox hb; have n0_ := Aside0.mk (below_step (by repeat (first | (with_reducible first | exact HB.out | apply below_alloc | apply pw_below_drewN | apply below_drew1) | exact HB.out)) hb); have n1_ := Aside0.mk (hbox); have n2_ := Aside0.mk ((by rw [hg]; exact (below_size (by repeat (first | (with_reducible first | exact HB.out | apply below_alloc | apply pw_below_drewN | apply below_drew1) | exact HB.out))) : w.heap.size ≤ gb485)); have n3_ := Aside0.mk ((by rw [hg]; exact (below_size (by repeat (first | (with_reducible first | exact HB.out | apply below_alloc | apply pw_below_drewN | apply below_drew1) | exact HB.out))) : w.heap.size ≤ gb485)); clear HB; have HB := n0_; have BK485 := n1_; have GW485 := n2_; have GE485 := n3_; clear n0_ n1_ n2_ n3_; clear hb hbox hg) | ((with_reducible refine gate_callee (f := 8) rfl ?_); refine goesL_ (some 15) rfl rfl Try.func8 (by kernel_rfl) rfl #[] rfl (by (try simp only [List.map_toArray, List.map_cons, List.map_nil]); first | done | rfl | (simp only [List.length_drop, List.length_take]; rfl)) ?_; (with_reducible refine (archivistlaw16_examples.calls k  true _ A4.out).mono ?_); rintro e w11 ⟨rfl, hb⟩; refine ⟨_, rfl, ?_⟩; have n0_ := Aside0.mk (blk_below (g := gb485) (o := .cells #[.int .i64 a1_0, .slice A1_1 l1_1.length c1_1, .string a1_2, .bool a1_3, .int .i8 a1_4, .slice A1_5 l1_5.length c1_5, .int .u8 a1_6] 30 (0, 0)) (by (with_reducible repeat (first | refine blk_drewN ?_ _ | refine blk_drew ?_ | refine blk_alloc ?_ _)); exact BK485.out) hb); have n1_ := Aside0.mk (below_step (by repeat (first | (with_reducible first | exact HB.out | apply below_alloc | apply pw_below_drewN | apply below_drew1 | refine below_set ?_ GE485.out) | exact HB.out)) hb); clear BK485; clear HB; have BK485 := n0_; have HB := n1_; clear n0_ n1_; (try clear hb); (try clear hb2); (try clear hk); (try clear hi)) | ((with_reducible refine gate_callee (f := 10) rfl ?_); refine goesL_ (some 19) rfl rfl Try.func10 (by kernel_rfl) rfl #[.slice A0 l0.length c0, .int .i64 10] rfl (by (try simp only [List.map_toArray, List.map_cons, List.map_nil]); first | done | rfl | (simp only [List.length_drop, List.length_take]; rfl)) ?_; (with_reducible refine (archivistlaw16_items.calls k (fun k_ => k_ < w.heap.size) _ _ l0 10 t487 _ ?side1 A6.out).mono ?_); (case side1 => exact Kd.V_mk HC0.out (Kd.F_below (Kd.C_F k30_heap HR0.out) (by repeat (first | (with_reducible first | exact HB.out | apply below_alloc | apply pw_below_drewN | apply below_drew1 | refine below_set ?_ GE485.out) | exact HB.out)))); rintro e w12 ⟨v488, rfl, ho0, hb⟩; refine ⟨_, rfl, ?_⟩; have n0_ := Aside0.mk (Kd.N_lower (Kd.N_mono (ok' := fun k_ => k_ ≠ gb485) ho0 (fun k_ hk_ => Or.elim hk_ (fun hs_ => fun e_ => Nat.not_le.2 hs_ (by rw [e_]; exact GW485.out)) (fun hn_ => (Kd.freshB (g := gb485) (o := .cells #[.int .i64 a1_0, .slice A1_1 l1_1.length c1_1, .string a1_2, .bool a1_3, .int .i8 a1_4, .slice A1_5 l1_5.length c1_5, .int .u8 a1_6] 30 (0, 0)) (by (with_reducible repeat (first | refine blk_drewN ?_ _ | refine blk_drew ?_ | refine blk_alloc ?_ _)); exact BK485.out) k_ hn_)))) (below_size (by repeat (first | (with_reducible first | exact HB.out | apply below_alloc | apply pw_below_drewN | apply below_drew1 | refine below_set ?_ GE485.out) | exact HB.out)))); have n1_ := Aside0.mk (blk_below (g := gb485) (o := .cells #[.int .i64 a1_0, .slice A1_1 l1_1.length c1_1, .string a1_2, .bool a1_3, .int .i8 a1_4, .slice A1_5 l1_5.length c1_5, .int .u8 a1_6] 30 (0, 0)) (by (with_reducible repeat (first | refine blk_drewN ?_ _ | refine blk_drew ?_ | refine blk_alloc ?_ _)); exact BK485.out) hb); have n2_ := Aside0.mk (below_step (by repeat (first | (with_reducible first | exact HB.out | apply below_alloc | apply pw_below_drewN | apply below_drew1 | refine below_set ?_ GE485.out) | exact HB.out)) hb); clear BK485; clear HB; have HO489 := n0_; have BK485 := n1_; have HB := n2_; clear n0_ n1_ n2_; (try clear hb); (try clear hb2); (try clear hk); (try clear hi); (try clear ho0); have hcz13_0 : w12.cell? ⟨gb485, 0, none⟩ = some (.int .i64 a1_0) := (blk_cell BK485.out 0).trans rfl; have hcz13_1 : w12.cell? ⟨gb485, 1, none⟩ = some (.slice A1_1 l1_1.length c1_1) := (blk_cell BK485.out 1).trans rfl; have hcz13_2 : w12.cell? ⟨gb485, 2, none⟩ = some (.string a1_2) := (blk_cell BK485.out 2).trans rfl; have hcz13_3 : w12.cell? ⟨gb485, 3, none⟩ = some (.bool a1_3) := (blk_cell BK485.out 3).trans rfl; have hcz13_4 : w12.cell? ⟨gb485, 4, none⟩ = some (.int .i8 a1_4) := (blk_cell BK485.out 4).trans rfl; have hcz13_5 : w12.cell? ⟨gb485, 5, none⟩ = some (.slice A1_5 l1_5.length c1_5) := (blk_cell BK485.out 5).trans rfl; have hcz13_6 : w12.cell? ⟨gb485, 6, none⟩ = some (.int .u8 a1_6) := (blk_cell BK485.out 6).trans rfl; have hfz13_0 := blk_frozen BK485.out 0; have hfz13_1 := blk_frozen BK485.out 1; have hfz13_2 := blk_frozen BK485.out 2; have hfz13_3 := blk_frozen BK485.out 3; have hfz13_4 := blk_frozen BK485.out 4; have hfz13_5 := blk_frozen BK485.out 5; have hfz13_6 := blk_frozen BK485.out 6) | ((with_reducible refine gate_callee (f := 16) rfl ?_); refine goesL_ (some 21) rfl rfl Try.func16 (by kernel_rfl) rfl #[.agg #[.int .i64 a1_0, .slice A1_1 l1_1.length c1_1, .string a1_2, .bool a1_3, .int .i8 a1_4, .slice A1_5 l1_5.length c1_5, .int .u8 a1_6]] rfl (by (try simp only [List.map_toArray, List.map_cons, List.map_nil]); first | done | rfl | (simp only [List.length_drop, List.length_take]; rfl)) ?_; (with_reducible refine (archivistlaw16_Item_item.calls k a1_0 (fun k_ => k_ < w.heap.size) _ _ l1_1 a1_2 a1_3 a1_4 _ _ l1_5 a1_6 t490 t491 t494 _ ?side1 ?side2 ?side3 A7.out).mono ?_); (case side1 => exact Kd.V_mk HC1_1.out (Kd.F_below (Kd.C_F k103_heap HR1_1.out) (by repeat (first | (with_reducible first | exact HB.out | apply below_alloc | apply pw_below_drewN | apply below_drew1 | refine below_set ?_ GE485.out) | exact HB.out)))); (case side2 => repeat (first | exact (Kd.C_below HR1_5.out HB.out) | (with_reducible refine Kd.C_alloc ?_ _) | (with_reducible refine Kd.C_drewN ?_ _) | (with_reducible refine Kd.C_drew ?_))); (case side3 => exact HC1_5.out); rintro e w14 ⟨v492, rfl, ho0, hb⟩; refine ⟨_, rfl, ?_⟩; have n0_ := Aside0.mk (Kd.N_below (by (with_reducible repeat (first | apply Kd.N_alloc | apply Kd.N_drewN | apply Kd.N_drew)); exact HO489.out) hb); have n1_ := Aside0.mk (Kd.V_lower (Kd.V_mono (ok' := fun k_ => some k_ ≠ (v488 : Value).ownBlock ∧ k_ ≠ gb485) ho0 (fun k_ hk_ => ⟨Or.elim hk_ (fun hs_ => fun e_ => Nat.not_le.2 hs_ (Kd.N_base HO489.out k_ e_.symm)) (fun hn_ => (Kd.fresh' (Kd.N_lt (by (with_reducible repeat (first | apply Kd.N_alloc | apply Kd.N_drewN | apply Kd.N_drew)); exact HO489.out)) k_ hn_)), Or.elim hk_ (fun hs_ => fun e_ => Nat.not_le.2 hs_ (by rw [e_]; exact GW485.out)) (fun hn_ => (Kd.freshB (g := gb485) (o := .cells #[.int .i64 a1_0, .slice A1_1 l1_1.length c1_1, .string a1_2, .bool a1_3, .int .i8 a1_4, .slice A1_5 l1_5.length c1_5, .int .u8 a1_6] 30 (0, 0)) (by (with_reducible repeat (first | refine blk_drewN ?_ _ | refine blk_drew ?_ | refine blk_alloc ?_ _)); exact BK485.out) k_ hn_))⟩)) (below_size (by repeat (first | (with_reducible first | exact HB.out | apply below_alloc | apply pw_below_drewN | apply below_drew1 | refine below_set ?_ GE485.out) | exact HB.out)))); have n2_ := Aside0.mk (blk_below (g := gb485) (o := .cells #[.int .i64 a1_0, .slice A1_1 l1_1.length c1_1, .string a1_2, .bool a1_3, .int .i8 a1_4, .slice A1_5 l1_5.length c1_5, .int .u8 a1_6] 30 (0, 0)) (by (with_reducible repeat (first | refine blk_drewN ?_ _ | refine blk_drew ?_ | refine blk_alloc ?_ _)); exact BK485.out) hb); have n3_ := Aside0.mk (below_step (by repeat (first | (with_reducible first | exact HB.out | apply below_alloc | apply pw_below_drewN | apply below_drew1 | refine below_set ?_ GE485.out) | exact HB.out)) hb); clear HO489; clear BK485; clear HB; have HO489 := n0_; have HO493 := n1_; have BK485 := n2_; have HB := n3_; clear n0_ n1_ n2_ n3_; (try clear hb); (try clear hb2); (try clear hk); (try clear hi); (try clear ho0)) | ((with_reducible refine gate_dst (N := 9) rfl ?_); (try (refine gate_guard (by rfl) ?_; dsimp only)); refine box_event ?hg (N := 9) ?hd (cs := #[.int .i64 0, .slice none 0 0, .string (⟨#[]⟩ : ByteArray)]) (t := 26) ?hr ?_; (case hd => rfl); (case hg => rfl); (case hr => first | (go_simp; done) | (go_simp; rfl)); intro gb495 hg w15 hbox hb; have n0_ := Aside0.mk (Kd.N_below (Kd.N_elderB (by (with_reducible repeat (first | apply Kd.N_alloc | apply Kd.N_drewN | apply Kd.N_drew)); exact HO489.out) gb495 (Nat.le_of_eq hg.symm)) hb); have n1_ := Aside0.mk (Kd.V_below (Kd.V_elderB (by (with_reducible repeat (first | apply Kd.V_alloc | apply Kd.V_drewN | apply Kd.V_drew)); exact HO493.out) gb495 (Nat.le_of_eq hg.symm)) hb); have n2_ := Aside0.mk (blk_below (g := gb485) (o := .cells #[.int .i64 a1_0, .slice A1_1 l1_1.length c1_1, .string a1_2, .bool a1_3, .int .i8 a1_4, .slice A1_5 l1_5.length c1_5, .int .u8 a1_6] 30 (0, 0)) (by (with_reducible repeat (first | refine blk_drewN ?_ _ | refine blk_drew ?_ | refine blk_alloc ?_ _)); exact BK485.out) hb); have n3_ := Aside0.mk (below_step (by repeat (first | (with_reducible first | exact HB.out | apply below_alloc | apply pw_below_drewN | apply below_drew1 | refine below_set ?_ GE485.out) | exact HB.out)) hb); have n4_ := Aside0.mk (hbox); have n5_ := Aside0.mk ((by rw [hg]; exact (below_size (by repeat (first | (with_reducible first | exact HB.out | apply below_alloc | apply pw_below_drewN | apply below_drew1 | refine below_set ?_ GE485.out) | exact HB.out))) : w.heap.size ≤ gb495)); have n6_ := Aside0.mk ((by rw [hg]; exact (below_size (by repeat (first | (with_reducible first | exact HB.out | apply below_alloc | apply pw_below_drewN | apply below_drew1 | refine below_set ?_ GE485.out) | exact HB.out))) : w.heap.size ≤ gb495)); have n7_ := Aside0.mk ((by rw [hg]; exact Nat.ne_of_lt (blk_lt (g := gb485) (o := .cells #[.int .i64 a1_0, .slice A1_1 l1_1.length c1_1, .string a1_2, .bool a1_3, .int .i8 a1_4, .slice A1_5 l1_5.length c1_5, .int .u8 a1_6] 30 (0, 0)) (by (with_reducible repeat (first | refine blk_drewN ?_ _ | refine blk_drew ?_ | refine blk_alloc ?_ _)); exact BK485.out)) : gb485 ≠ gb495)); have n8_ := Aside0.mk ((by rw [hg]; exact Nat.ne_of_gt (blk_lt (g := gb485) (o := .cells #[.int .i64 a1_0, .slice A1_1 l1_1.length c1_1, .string a1_2, .bool a1_3, .int .i8 a1_4, .slice A1_5 l1_5.length c1_5, .int .u8 a1_6] 30 (0, 0)) (by (with_reducible repeat (first | refine blk_drewN ?_ _ | refine blk_drew ?_ | refine blk_alloc ?_ _)); exact BK485.out)) : gb495 ≠ gb485)); clear HO489; clear HO493; clear BK485; clear HB; have HO489 := n0_; have HO493 := n1_; have BK485 := n2_; have HB := n3_; have BK495 := n4_; have GW495 := n5_; have GE495 := n6_; have NB485_495 := n7_; have NB495_485 := n8_; clear n0_ n1_ n2_ n3_ n4_ n5_ n6_ n7_ n8_; clear hb hbox hg; have hnb16 := NB495_485.out; have hnc16 := NB485_495.out; have hcz17_0 : w15.cell? ⟨gb495, 0, none⟩ = some (.int .i64 0) := (blk_cell BK495.out 0).trans rfl; have hcz17_1 : w15.cell? ⟨gb495, 1, none⟩ = some (.slice none 0 0) := (blk_cell BK495.out 1).trans rfl; have hcz17_2 : w15.cell? ⟨gb495, 2, none⟩ = some (.string (⟨#[]⟩ : ByteArray)) := (blk_cell BK495.out 2).trans rfl; have hfz17_0 := blk_frozen BK495.out 0; have hfz17_1 := blk_frozen BK495.out 1; have hfz17_2 := blk_frozen BK495.out 2; obtain ⟨Ao18, co18, eo18⟩ := Kd.V_slice HO493.out; subst eo18) | ((with_reducible refine gate_store (t := 26) (p := 9) rfl ?_); refine store_event (t := 26) (p := 9) (v := ?vo_w19) (w1 := (((w15.setCell ⟨gb495, 0, none⟩ (.int .i64 t490)).setCell ⟨gb495, 1, none⟩ (.slice Ao18 t491.length co18)).setCell ⟨gb495, 2, none⟩ (.string t494))) ?hg ?ho ?hn ?hr ?_; (case ho => rfl); (case hg => rfl); (case hn => rfl); (case hr => first | (go_simp; done) | (go_simp; rfl)); intro w19 hw; have n0_ : Aside0 (Kd.N k26 26 w19 w.heap.size (fun k_ => k_ ≠ gb485 ∧ k_ ≠ gb495) v488 t487) := ⟨(by rw [hw]; exact (by (with_reducible repeat (first | apply Kd.N_alloc | apply Kd.N_drewN | apply Kd.N_drew)); exact Kd.N_mono (Kd.N_far (p := ⟨gb495, 2, none⟩) (Kd.N_far (p := ⟨gb495, 1, none⟩) (Kd.N_far (p := ⟨gb495, 0, none⟩) (Kd.N_mono HO489.out (fun k_ hk => (⟨hk, hk.2⟩ : _ ∧ k_ ≠ gb495))) (fun _ hk => hk.2) (.int .i64 t490)) (fun _ hk => hk.2) (.slice Ao18 t491.length co18)) (fun _ hk => hk.2) (.string t494)) (fun _ hk => ⟨hk.1.1, hk.1.2⟩)))⟩; have n1_ : Aside0 (Kd.V k103 103 w19 w.heap.size (fun k_ => some k_ ≠ (v488 : Value).ownBlock ∧ k_ ≠ gb485 ∧ k_ ≠ gb495) (.slice Ao18 t491.length co18) t491) := ⟨(by rw [hw]; exact (by (with_reducible repeat (first | apply Kd.V_alloc | apply Kd.V_drewN | apply Kd.V_drew)); exact Kd.V_mono (Kd.V_far (p := ⟨gb495, 2, none⟩) (Kd.V_far (p := ⟨gb495, 1, none⟩) (Kd.V_far (p := ⟨gb495, 0, none⟩) (Kd.V_mono HO493.out (fun k_ hk => (⟨hk, hk.2⟩ : _ ∧ k_ ≠ gb495))) (fun _ hk => hk.2) (.int .i64 t490)) (fun _ hk => hk.2) (.slice Ao18 t491.length co18)) (fun _ hk => hk.2) (.string t494)) (fun _ hk => ⟨hk.1.1.1, ⟨hk.1.1.2, hk.1.2⟩⟩)))⟩; have n2_ : Aside0 (w19.heap[gb485]? = some (.cells #[.int .i64 a1_0, .slice A1_1 l1_1.length c1_1, .string a1_2, .bool a1_3, .int .i8 a1_4, .slice A1_5 l1_5.length c1_5, .int .u8 a1_6] 30 (0, 0))) := ⟨(by rw [hw]; exact (by (with_reducible repeat (first | refine blk_drewN ?_ _ | refine blk_drew ?_ | refine blk_alloc ?_ _)); refine blk_far ?_ NB485_495.out _; (with_reducible repeat (first | refine blk_drewN ?_ _ | refine blk_drew ?_ | refine blk_alloc ?_ _)); refine blk_far ?_ NB485_495.out _; (with_reducible repeat (first | refine blk_drewN ?_ _ | refine blk_drew ?_ | refine blk_alloc ?_ _)); refine blk_far ?_ NB485_495.out _; (with_reducible repeat (first | refine blk_drewN ?_ _ | refine blk_drew ?_ | refine blk_alloc ?_ _)); exact BK485.out))⟩; have n3_ : Aside0 (w19.heap[gb495]? = some (.cells #[.int .i64 t490, .slice Ao18 t491.length co18, .string t494] 26 (0, 0))) := ⟨(by rw [hw]; exact (by (with_reducible repeat (first | refine blk_drewN ?_ _ | refine blk_drew ?_ | refine blk_alloc ?_ _)); refine blk_put (cs := #[.int .i64 t490, .slice Ao18 t491.length co18, .string (⟨#[]⟩ : ByteArray)]) ?_ 2 _ rfl; (with_reducible repeat (first | refine blk_drewN ?_ _ | refine blk_drew ?_ | refine blk_alloc ?_ _)); refine blk_put (cs := #[.int .i64 t490, .slice none 0 0, .string (⟨#[]⟩ : ByteArray)]) ?_ 1 _ rfl; (with_reducible repeat (first | refine blk_drewN ?_ _ | refine blk_drew ?_ | refine blk_alloc ?_ _)); refine blk_put (cs := #[.int .i64 0, .slice none 0 0, .string (⟨#[]⟩ : ByteArray)]) ?_ 0 _ rfl; (with_reducible repeat (first | refine blk_drewN ?_ _ | refine blk_drew ?_ | refine blk_alloc ?_ _)); exact BK495.out))⟩; have n4_ : Aside0 (Below w.heap.size w w19) := ⟨(by rw [hw]; exact (by repeat (first | (with_reducible first | exact HB.out | apply below_alloc | apply pw_below_drewN | apply below_drew1 | refine below_set ?_ GE485.out | refine below_set ?_ GE495.out) | exact HB.out)))⟩; clear hw; clear HO489; clear HO493; clear BK485; clear BK495; clear HB; have HO489 := n0_; have HO493 := n1_; have BK485 := n2_; have BK495 := n3_; have HB := n4_; clear n0_ n1_ n2_ n3_ n4_; have hcz20_0 : w19.cell? ⟨gb495, 0, none⟩ = some (.int .i64 t490) := (blk_cell BK495.out 0).trans rfl; have hcz20_1 : w19.cell? ⟨gb495, 1, none⟩ = some (.slice Ao18 t491.length co18) := (blk_cell BK495.out 1).trans rfl; have hcz20_2 : w19.cell? ⟨gb495, 2, none⟩ = some (.string t494) := (blk_cell BK495.out 2).trans rfl; have hfz20_0 := blk_frozen BK495.out 0; have hfz20_1 := blk_frozen BK495.out 1; have hfz20_2 := blk_frozen BK495.out 2; obtain ⟨Ao21, co21, eo21⟩ := Kd.N_slice HO489.out; subst eo21) | ((with_reducible refine gate_callee (f := 19) rfl ?_); refine goesL_ (some 25) rfl rfl Try.func19 (by kernel_rfl) rfl #[.bool a2, .agg #[.int .i64 t490, .slice Ao18 t491.length co18, .string t494], .slice Ao21 t487.length co21] rfl (by (try simp only [List.map_toArray, List.map_cons, List.map_nil]); first | done | rfl | (simp only [List.length_drop, List.length_take]; rfl)) ?_; (with_reducible refine (merge_Upto.calls k a2 t490 _ _ t491 t494 (fun k_ => (k_ ≠ gb485 ∧ k_ ≠ gb495)) _ _ t487 t496 _ ?side1 ?side2 ?side3 A8.out).mono ?_); (case side1 => repeat (first | exact (Kd.V_reads' HO493.out).2.2 | (with_reducible refine Kd.C_alloc ?_ _) | (with_reducible refine Kd.C_drewN ?_ _) | (with_reducible refine Kd.C_drew ?_))); (case side2 => exact (Kd.V_reads' HO493.out).2.1); (case side3 => exact Kd.N_V (HO489.out)); rintro e w22 ⟨v497, rfl, ho0, hb⟩; refine ⟨_, rfl, ?_⟩; have n0_ := Aside0.mk (Kd.N_elder' (by (with_reducible repeat (first | apply Kd.N_alloc | apply Kd.N_drewN | apply Kd.N_drew)); exact HO489.out) (Kd.N_base ho0) hb); have n1_ := Aside0.mk (Kd.V_elder' (by (with_reducible repeat (first | apply Kd.V_alloc | apply Kd.V_drewN | apply Kd.V_drew)); exact HO493.out) (Kd.N_base ho0) hb); have n2_ := Aside0.mk (Kd.N_lower (Kd.N_mono (ok' := fun k_ => k_ ≠ gb485 ∧ k_ ≠ gb495) ho0 (fun k_ hk_ => ⟨Or.elim hk_ (fun hs_ => hs_.1) (fun hn_ => (Kd.freshB (g := gb485) (o := .cells #[.int .i64 a1_0, .slice A1_1 l1_1.length c1_1, .string a1_2, .bool a1_3, .int .i8 a1_4, .slice A1_5 l1_5.length c1_5, .int .u8 a1_6] 30 (0, 0)) (by (with_reducible repeat (first | refine blk_drewN ?_ _ | refine blk_drew ?_ | refine blk_alloc ?_ _)); exact BK485.out) k_ hn_)), Or.elim hk_ (fun hs_ => hs_.2) (fun hn_ => (Kd.freshB (g := gb495) (o := .cells #[.int .i64 t490, .slice Ao18 t491.length co18, .string t494] 26 (0, 0)) (by (with_reducible repeat (first | refine blk_drewN ?_ _ | refine blk_drew ?_ | refine blk_alloc ?_ _)); exact BK495.out) k_ hn_))⟩)) (below_size (by repeat (first | (with_reducible first | exact HB.out | apply below_alloc | apply pw_below_drewN | apply below_drew1 | refine below_set ?_ GE485.out | refine below_set ?_ GE495.out) | exact HB.out)))); have n3_ := Aside0.mk (blk_below (g := gb485) (o := .cells #[.int .i64 a1_0, .slice A1_1 l1_1.length c1_1, .string a1_2, .bool a1_3, .int .i8 a1_4, .slice A1_5 l1_5.length c1_5, .int .u8 a1_6] 30 (0, 0)) (by (with_reducible repeat (first | refine blk_drewN ?_ _ | refine blk_drew ?_ | refine blk_alloc ?_ _)); exact BK485.out) hb); have n4_ := Aside0.mk (blk_below (g := gb495) (o := .cells #[.int .i64 t490, .slice Ao18 t491.length co18, .string t494] 26 (0, 0)) (by (with_reducible repeat (first | refine blk_drewN ?_ _ | refine blk_drew ?_ | refine blk_alloc ?_ _)); exact BK495.out) hb); have n5_ := Aside0.mk (below_step (by repeat (first | (with_reducible first | exact HB.out | apply below_alloc | apply pw_below_drewN | apply below_drew1 | refine below_set ?_ GE485.out | refine below_set ?_ GE495.out) | exact HB.out)) hb); clear HO489; clear HO493; clear BK485; clear BK495; clear HB; have HO489 := n0_; have HO493 := n1_; have HO498 := n2_; have BK485 := n3_; have BK495 := n4_; have HB := n5_; clear n0_ n1_ n2_ n3_ n4_ n5_; (try clear hb); (try clear hb2); (try clear hk); (try clear hi); (try clear ho0)) | ((with_reducible refine gate_callee (f := 14) rfl ?_); refine goesL_ (some 29) rfl rfl Try.func14 (by kernel_rfl) rfl #[.bool a2, .slice Ao21 t487.length co21] rfl (by (try simp only [List.map_toArray, List.map_cons, List.map_nil]); first | done | rfl | (simp only [List.length_drop, List.length_take]; rfl)) ?_; (with_reducible refine (merge_First.calls k a2 (fun k_ => ((k_ ≠ gb485 ∧ k_ ≠ gb495) ∧ some k_ ≠ (v497 : Value).ownBlock)) _ _ t487 t499 t500 t503 t504 _ ?side1 A9.out).mono ?_); (case side1 => exact Kd.N_V (HO489.out)); rintro e w23 ⟨v501, rfl, ho0, hb⟩; refine ⟨_, rfl, ?_⟩; have n0_ := Aside0.mk (Kd.N_below (by (with_reducible repeat (first | apply Kd.N_alloc | apply Kd.N_drewN | apply Kd.N_drew)); exact HO489.out) hb); have n1_ := Aside0.mk (Kd.V_below (by (with_reducible repeat (first | apply Kd.V_alloc | apply Kd.V_drewN | apply Kd.V_drew)); exact HO493.out) hb); have n2_ := Aside0.mk (Kd.N_below (by (with_reducible repeat (first | apply Kd.N_alloc | apply Kd.N_drewN | apply Kd.N_drew)); exact HO498.out) hb); have n3_ := Aside0.mk (Kd.V_lower (Kd.V_mono (ok' := fun k_ => some k_ ≠ (v497 : Value).ownBlock ∧ k_ ≠ gb485 ∧ k_ ≠ gb495) ho0 (fun k_ hk_ => ⟨Or.elim hk_ (fun hs_ => hs_.2) (fun hn_ => (Kd.fresh' (Kd.N_lt (by (with_reducible repeat (first | apply Kd.N_alloc | apply Kd.N_drewN | apply Kd.N_drew)); exact HO498.out)) k_ hn_)), Or.elim hk_ (fun hs_ => hs_.1.1) (fun hn_ => (Kd.freshB (g := gb485) (o := .cells #[.int .i64 a1_0, .slice A1_1 l1_1.length c1_1, .string a1_2, .bool a1_3, .int .i8 a1_4, .slice A1_5 l1_5.length c1_5, .int .u8 a1_6] 30 (0, 0)) (by (with_reducible repeat (first | refine blk_drewN ?_ _ | refine blk_drew ?_ | refine blk_alloc ?_ _)); exact BK485.out) k_ hn_)), Or.elim hk_ (fun hs_ => hs_.1.2) (fun hn_ => (Kd.freshB (g := gb495) (o := .cells #[.int .i64 t490, .slice Ao18 t491.length co18, .string t494] 26 (0, 0)) (by (with_reducible repeat (first | refine blk_drewN ?_ _ | refine blk_drew ?_ | refine blk_alloc ?_ _)); exact BK495.out) k_ hn_))⟩)) (below_size (by repeat (first | (with_reducible first | exact HB.out | apply below_alloc | apply pw_below_drewN | apply below_drew1 | refine below_set ?_ GE485.out | refine below_set ?_ GE495.out) | exact HB.out)))); have n4_ := Aside0.mk (blk_below (g := gb485) (o := .cells #[.int .i64 a1_0, .slice A1_1 l1_1.length c1_1, .string a1_2, .bool a1_3, .int .i8 a1_4, .slice A1_5 l1_5.length c1_5, .int .u8 a1_6] 30 (0, 0)) (by (with_reducible repeat (first | refine blk_drewN ?_ _ | refine blk_drew ?_ | refine blk_alloc ?_ _)); exact BK485.out) hb); have n5_ := Aside0.mk (blk_below (g := gb495) (o := .cells #[.int .i64 t490, .slice Ao18 t491.length co18, .string t494] 26 (0, 0)) (by (with_reducible repeat (first | refine blk_drewN ?_ _ | refine blk_drew ?_ | refine blk_alloc ?_ _)); exact BK495.out) hb); have n6_ := Aside0.mk (below_step (by repeat (first | (with_reducible first | exact HB.out | apply below_alloc | apply pw_below_drewN | apply below_drew1 | refine below_set ?_ GE485.out | refine below_set ?_ GE495.out) | exact HB.out)) hb); clear HO489; clear HO493; clear HO498; clear BK485; clear BK495; clear HB; have HO489 := n0_; have HO493 := n1_; have HO498 := n2_; have HO502 := n3_; have BK485 := n4_; have BK495 := n5_; have HB := n6_; clear n0_ n1_ n2_ n3_ n4_ n5_ n6_; (try clear hb); (try clear hb2); (try clear hk); (try clear hi); (try clear ho0)) | ((with_reducible refine gate_dst (N := 11) rfl ?_); (try (refine gate_guard (by rfl) ?_; dsimp only)); refine box_event ?hg (N := 11) ?hd (cs := #[.int .i64 0, .slice none 0 0, .string (⟨#[]⟩ : ByteArray)]) (t := 26) ?hr ?_; (case hd => rfl); (case hg => rfl); (case hr => first | (go_simp; done) | (go_simp; rfl)); intro gb505 hg w24 hbox hb; have n0_ := Aside0.mk (Kd.N_below (Kd.N_elderB (by (with_reducible repeat (first | apply Kd.N_alloc | apply Kd.N_drewN | apply Kd.N_drew)); exact HO489.out) gb505 (Nat.le_of_eq hg.symm)) hb); have n1_ := Aside0.mk (Kd.V_below (Kd.V_elderB (by (with_reducible repeat (first | apply Kd.V_alloc | apply Kd.V_drewN | apply Kd.V_drew)); exact HO493.out) gb505 (Nat.le_of_eq hg.symm)) hb); have n2_ := Aside0.mk (Kd.N_below (Kd.N_elderB (by (with_reducible repeat (first | apply Kd.N_alloc | apply Kd.N_drewN | apply Kd.N_drew)); exact HO498.out) gb505 (Nat.le_of_eq hg.symm)) hb); have n3_ := Aside0.mk (Kd.V_below (Kd.V_elderB (by (with_reducible repeat (first | apply Kd.V_alloc | apply Kd.V_drewN | apply Kd.V_drew)); exact HO502.out) gb505 (Nat.le_of_eq hg.symm)) hb); have n4_ := Aside0.mk (blk_below (g := gb485) (o := .cells #[.int .i64 a1_0, .slice A1_1 l1_1.length c1_1, .string a1_2, .bool a1_3, .int .i8 a1_4, .slice A1_5 l1_5.length c1_5, .int .u8 a1_6] 30 (0, 0)) (by (with_reducible repeat (first | refine blk_drewN ?_ _ | refine blk_drew ?_ | refine blk_alloc ?_ _)); exact BK485.out) hb); have n5_ := Aside0.mk (blk_below (g := gb495) (o := .cells #[.int .i64 t490, .slice Ao18 t491.length co18, .string t494] 26 (0, 0)) (by (with_reducible repeat (first | refine blk_drewN ?_ _ | refine blk_drew ?_ | refine blk_alloc ?_ _)); exact BK495.out) hb); have n6_ := Aside0.mk (below_step (by repeat (first | (with_reducible first | exact HB.out | apply below_alloc | apply pw_below_drewN | apply below_drew1 | refine below_set ?_ GE485.out | refine below_set ?_ GE495.out) | exact HB.out)) hb); have n7_ := Aside0.mk (hbox); have n8_ := Aside0.mk ((by rw [hg]; exact (below_size (by repeat (first | (with_reducible first | exact HB.out | apply below_alloc | apply pw_below_drewN | apply below_drew1 | refine below_set ?_ GE485.out | refine below_set ?_ GE495.out) | exact HB.out))) : w.heap.size ≤ gb505)); have n9_ := Aside0.mk ((by rw [hg]; exact (below_size (by repeat (first | (with_reducible first | exact HB.out | apply below_alloc | apply pw_below_drewN | apply below_drew1 | refine below_set ?_ GE485.out | refine below_set ?_ GE495.out) | exact HB.out))) : w.heap.size ≤ gb505)); have n10_ := Aside0.mk ((by rw [hg]; exact Nat.ne_of_lt (blk_lt (g := gb485) (o := .cells #[.int .i64 a1_0, .slice A1_1 l1_1.length c1_1, .string a1_2, .bool a1_3, .int .i8 a1_4, .slice A1_5 l1_5.length c1_5, .int .u8 a1_6] 30 (0, 0)) (by (with_reducible repeat (first | refine blk_drewN ?_ _ | refine blk_drew ?_ | refine blk_alloc ?_ _)); exact BK485.out)) : gb485 ≠ gb505)); have n11_ := Aside0.mk ((by rw [hg]; exact Nat.ne_of_gt (blk_lt (g := gb485) (o := .cells #[.int .i64 a1_0, .slice A1_1 l1_1.length c1_1, .string a1_2, .bool a1_3, .int .i8 a1_4, .slice A1_5 l1_5.length c1_5, .int .u8 a1_6] 30 (0, 0)) (by (with_reducible repeat (first | refine blk_drewN ?_ _ | refine blk_drew ?_ | refine blk_alloc ?_ _)); exact BK485.out)) : gb505 ≠ gb485)); have n12_ := Aside0.mk ((by rw [hg]; exact Nat.ne_of_lt (blk_lt (g := gb495) (o := .cells #[.int .i64 t490, .slice Ao18 t491.length co18, .string t494] 26 (0, 0)) (by (with_reducible repeat (first | refine blk_drewN ?_ _ | refine blk_drew ?_ | refine blk_alloc ?_ _)); exact BK495.out)) : gb495 ≠ gb505)); have n13_ := Aside0.mk ((by rw [hg]; exact Nat.ne_of_gt (blk_lt (g := gb495) (o := .cells #[.int .i64 t490, .slice Ao18 t491.length co18, .string t494] 26 (0, 0)) (by (with_reducible repeat (first | refine blk_drewN ?_ _ | refine blk_drew ?_ | refine blk_alloc ?_ _)); exact BK495.out)) : gb505 ≠ gb495)); clear HO489; clear HO493; clear HO498; clear HO502; clear BK485; clear BK495; clear HB; have HO489 := n0_; have HO493 := n1_; have HO498 := n2_; have HO502 := n3_; have BK485 := n4_; have BK495 := n5_; have HB := n6_; have BK505 := n7_; have GW505 := n8_; have GE505 := n9_; have NB485_505 := n10_; have NB505_485 := n11_; have NB495_505 := n12_; have NB505_495 := n13_; clear n0_ n1_ n2_ n3_ n4_ n5_ n6_ n7_ n8_ n9_ n10_ n11_ n12_ n13_; clear hb hbox hg; have hnb25 := NB505_485.out; have hnc25 := NB485_505.out; have hnb26 := NB505_495.out; have hnc26 := NB495_505.out; have hcz27_0 : w24.cell? ⟨gb505, 0, none⟩ = some (.int .i64 0) := (blk_cell BK505.out 0).trans rfl; have hcz27_1 : w24.cell? ⟨gb505, 1, none⟩ = some (.slice none 0 0) := (blk_cell BK505.out 1).trans rfl; have hcz27_2 : w24.cell? ⟨gb505, 2, none⟩ = some (.string (⟨#[]⟩ : ByteArray)) := (blk_cell BK505.out 2).trans rfl; have hfz27_0 := blk_frozen BK505.out 0; have hfz27_1 := blk_frozen BK505.out 1; have hfz27_2 := blk_frozen BK505.out 2; obtain ⟨Ao28, co28, eo28⟩ := Kd.V_slice HO502.out; subst eo28))
    go_loopg [13, 14] k (fun kq v13 v14 w' => ∃ (x13_1 : Int) (x14_1 : Int), v13 = .int .i64 x13_1 ∧ v14 = .int .i64 x14_1 ∧ Aside0 (archivistlaw16_MergeEnds.l0 kq a2 true t487 t496 t504 x13_1 x14_1 t490 t491 t494 t499 t500 t503 = some r) ∧ Aside0 (kq ≤ k) ∧ Aside0 (Kd.N k26 26 w' w.heap.size (fun k_ => some k_ ≠ (v497 : Value).ownBlock ∧ k_ ≠ gb485 ∧ k_ ≠ gb495 ∧ k_ ≠ gb505) (.slice Ao21 t487.length co21) t487) ∧ Aside0 (Kd.N k26 26 w' w.heap.size (fun k_ => k_ ≠ gb485 ∧ k_ ≠ gb495 ∧ k_ ≠ gb505) v497 t496) ∧ Aside0 (Kd.V k103 103 w' w.heap.size (fun k_ => some k_ ≠ ((.slice Ao21 t487.length co21) : Value).ownBlock ∧ some k_ ≠ (v497 : Value).ownBlock ∧ k_ ≠ gb485 ∧ k_ ≠ gb495 ∧ k_ ≠ gb505) (.slice Ao18 t491.length co18) t491) ∧ Aside0 (Kd.V k103 103 w' w.heap.size (fun k_ => some k_ ≠ (v497 : Value).ownBlock ∧ k_ ≠ gb485 ∧ k_ ≠ gb495 ∧ k_ ≠ gb505) (.slice Ao28 t500.length co28) t500) ∧ Aside0 (w'.heap[gb485]? = some (.cells #[.int .i64 a1_0, (.slice A1_1 l1_1.length c1_1), .string a1_2, .bool a1_3, .int .i8 a1_4, (.slice A1_5 l1_5.length c1_5), .int .u8 a1_6] 30 (0, 0))) ∧ Aside0 (w'.heap[gb495]? = some (.cells #[.int .i64 t490, (.slice Ao18 t491.length co18), .string t494] 26 (0, 0))) ∧ Aside0 (w'.heap[gb505]? = some (.cells #[.int .i64 t499, (.slice Ao28 t500.length co28), .string t503] 26 (0, 0))) ∧ Aside0 (Below w.heap.size w w'))
    case atStart => exact ⟨(0), (0), (by first | rfl | (simp; done) | (simp [*]; done)), (by first | rfl | (simp; done) | (simp [*]; done)), H', ⟨Nat.le_refl _⟩, ⟨by (with_reducible repeat (first | apply Kd.N_alloc | apply Kd.N_drewN | apply Kd.N_drew)); exact Kd.N_mono (Kd.N_far (p := ⟨gb505, 2, none⟩) (Kd.N_far (p := ⟨gb505, 1, none⟩) (Kd.N_far (p := ⟨gb505, 0, none⟩) (Kd.N_mono HO489.out (fun k_ hk => (⟨hk, hk.2⟩ : _ ∧ k_ ≠ gb505))) (fun _ hk => hk.2) (.int .i64 t499)) (fun _ hk => hk.2) (.slice Ao28 t500.length co28)) (fun _ hk => hk.2) (.string t503)) (fun _ hk => ⟨hk.1.1.2, ⟨hk.1.1.1.1, ⟨hk.1.1.1.2, hk.1.2⟩⟩⟩)⟩, ⟨by (with_reducible repeat (first | apply Kd.N_alloc | apply Kd.N_drewN | apply Kd.N_drew)); exact Kd.N_mono (Kd.N_far (p := ⟨gb505, 2, none⟩) (Kd.N_far (p := ⟨gb505, 1, none⟩) (Kd.N_far (p := ⟨gb505, 0, none⟩) (Kd.N_mono HO498.out (fun k_ hk => (⟨hk, hk.2⟩ : _ ∧ k_ ≠ gb505))) (fun _ hk => hk.2) (.int .i64 t499)) (fun _ hk => hk.2) (.slice Ao28 t500.length co28)) (fun _ hk => hk.2) (.string t503)) (fun _ hk => ⟨hk.1.1.1, ⟨hk.1.1.2, hk.1.2⟩⟩)⟩, ⟨by (with_reducible repeat (first | apply Kd.V_alloc | apply Kd.V_drewN | apply Kd.V_drew)); exact Kd.V_mono (Kd.V_far (p := ⟨gb505, 2, none⟩) (Kd.V_far (p := ⟨gb505, 1, none⟩) (Kd.V_far (p := ⟨gb505, 0, none⟩) (Kd.V_mono HO493.out (fun k_ hk => (⟨hk, hk.2⟩ : _ ∧ k_ ≠ gb505))) (fun _ hk => hk.2) (.int .i64 t499)) (fun _ hk => hk.2) (.slice Ao28 t500.length co28)) (fun _ hk => hk.2) (.string t503)) (fun _ hk => ⟨hk.1.1.1.1, ⟨hk.1.1.2, ⟨hk.1.1.1.2.1, ⟨hk.1.1.1.2.2, hk.1.2⟩⟩⟩⟩)⟩, ⟨by (with_reducible repeat (first | apply Kd.V_alloc | apply Kd.V_drewN | apply Kd.V_drew)); exact Kd.V_mono (Kd.V_far (p := ⟨gb505, 2, none⟩) (Kd.V_far (p := ⟨gb505, 1, none⟩) (Kd.V_far (p := ⟨gb505, 0, none⟩) (Kd.V_mono HO502.out (fun k_ hk => (⟨hk, hk.2⟩ : _ ∧ k_ ≠ gb505))) (fun _ hk => hk.2) (.int .i64 t499)) (fun _ hk => hk.2) (.slice Ao28 t500.length co28)) (fun _ hk => hk.2) (.string t503)) (fun _ hk => ⟨hk.1.1.1, ⟨hk.1.1.2.1, ⟨hk.1.1.2.2, hk.1.2⟩⟩⟩)⟩, ⟨by (with_reducible repeat (first | refine blk_drewN ?_ _ | refine blk_drew ?_ | refine blk_alloc ?_ _)); refine blk_far ?_ NB485_505.out _; (with_reducible repeat (first | refine blk_drewN ?_ _ | refine blk_drew ?_ | refine blk_alloc ?_ _)); refine blk_far ?_ NB485_505.out _; (with_reducible repeat (first | refine blk_drewN ?_ _ | refine blk_drew ?_ | refine blk_alloc ?_ _)); refine blk_far ?_ NB485_505.out _; (with_reducible repeat (first | refine blk_drewN ?_ _ | refine blk_drew ?_ | refine blk_alloc ?_ _)); exact BK485.out⟩, ⟨by (with_reducible repeat (first | refine blk_drewN ?_ _ | refine blk_drew ?_ | refine blk_alloc ?_ _)); refine blk_far ?_ NB495_505.out _; (with_reducible repeat (first | refine blk_drewN ?_ _ | refine blk_drew ?_ | refine blk_alloc ?_ _)); refine blk_far ?_ NB495_505.out _; (with_reducible repeat (first | refine blk_drewN ?_ _ | refine blk_drew ?_ | refine blk_alloc ?_ _)); refine blk_far ?_ NB495_505.out _; (with_reducible repeat (first | refine blk_drewN ?_ _ | refine blk_drew ?_ | refine blk_alloc ?_ _)); exact BK495.out⟩, ⟨by (with_reducible repeat (first | refine blk_drewN ?_ _ | refine blk_drew ?_ | refine blk_alloc ?_ _)); refine blk_put (cs := #[.int .i64 t499, .slice Ao28 t500.length co28, .string (⟨#[]⟩ : ByteArray)]) ?_ 2 _ rfl; (with_reducible repeat (first | refine blk_drewN ?_ _ | refine blk_drew ?_ | refine blk_alloc ?_ _)); refine blk_put (cs := #[.int .i64 t499, .slice none 0 0, .string (⟨#[]⟩ : ByteArray)]) ?_ 1 _ rfl; (with_reducible repeat (first | refine blk_drewN ?_ _ | refine blk_drew ?_ | refine blk_alloc ?_ _)); refine blk_put (cs := #[.int .i64 0, .slice none 0 0, .string (⟨#[]⟩ : ByteArray)]) ?_ 0 _ rfl; (with_reducible repeat (first | refine blk_drewN ?_ _ | refine blk_drew ?_ | refine blk_alloc ?_ _)); exact BK505.out⟩, ⟨by repeat (first | (with_reducible first | exact HB.out | apply below_alloc | apply pw_below_drewN | apply below_drew1 | refine below_set ?_ GE485.out | refine below_set ?_ GE495.out | refine below_set ?_ GE505.out) | exact HB.out)⟩⟩
    case round =>
      clear H'
      try clear c1
      try clear c2
      try clear p2
      try clear c5
      try clear c6
      try clear c8
      try clear c10
      try clear c14
      try clear c16
      try clear c19
      try clear c25
      try clear c26
      try clear hcz13_0
      try clear hcz13_1
      try clear hcz13_2
      try clear hcz13_3
      try clear hcz13_4
      try clear hcz13_5
      try clear hcz13_6
      try clear hcz17_0
      try clear hcz17_1
      try clear hcz17_2
      try clear hcz20_0
      try clear hcz20_1
      try clear hcz20_2
      try clear hcz27_0
      try clear hcz27_1
      try clear hcz27_2
      try clear hfz13_0
      try clear hfz13_1
      try clear hfz13_2
      try clear hfz13_3
      try clear hfz13_4
      try clear hfz13_5
      try clear hfz13_6
      try clear hfz17_0
      try clear hfz17_1
      try clear hfz17_2
      try clear hfz20_0
      try clear hfz20_1
      try clear hfz20_2
      try clear hfz27_0
      try clear hfz27_1
      try clear hfz27_2
      obtain ⟨x13_1, x14_1, rfl, rfl, HA, HK1, HO_8, HO_10, HO_496001, HO_506001, BK485, BK495, BK505, HB⟩ := hrel
      cases gk with
      | zero => exact absurd HA.out (by simp [archivistlaw16_MergeEnds.l0])
      | succ k1 =>
        have H := HA.out
        clear HA
        simp only [archivistlaw16_MergeEnds.l0] at H
        by_cases c29 : x14_1 < (t487.length : Int)
        · rw [if_pos c29] at H
          have c29b0 : decide (x14_1 < (t487.length : Int)) = true := decide_eq_true c29
          clear c29
          by_cases c30 : 0 ≤ x14_1
          · rw [if_pos c30] at H
            have c30b0 : decide (0 ≤ x14_1) = true := decide_eq_true c30
            clear c30
            replace H := Option.bind_eq_some_iff.mp H
            obtain ⟨t507, A310, H⟩ := H
            replace H : (if t507 = true then (none) else ((entry_Ahead.f k1 t490 t491 t494 ((rd_T26 t487 x14_1).f0) ((rd_T26 t487 x14_1).f1) ((rd_T26 t487 x14_1).f2) a2).bind fun t509 => (if t509 = true then (archivistlaw16_MergeEnds.l0 k1 a2 true t487 t496 t504 x13_1 (wrap64 (x14_1 + 1)) t490 t491 t494 t499 t500 t503) else (if x13_1 ≥ (t496.length : Int) then (none) else (if 0 ≤ x13_1 then (if x13_1 < (t496.length : Int) then ((entry_Same.f k1 ((rd_T26 t496 x13_1).f0) ((rd_T26 t496 x13_1).f1) ((rd_T26 t496 x13_1).f2) ((rd_T26 t487 x14_1).f0) ((rd_T26 t487 x14_1).f1) ((rd_T26 t487 x14_1).f2)).bind fun t512 => (if t512 = true then (archivistlaw16_MergeEnds.l0 k1 a2 true t487 t496 t504 (wrap64 (x13_1 + 1)) (wrap64 (x14_1 + 1)) t490 t491 t494 t499 t500 t503) else (none))) else (none)) else (none)))))) = some r := H
            have A31 := Aside0.mk A310
            clear A310
            by_cases c32 : t507 = true
            · subst c32
              have H1 : (none) = some r := by rw [if_pos rfl] at H; exact H
              clear H
              have H := H1
              clear H1
              exact absurd H (by simp)
            · replace c32 := Bool.eq_false_iff.mpr c32
              subst c32
              have H1 : ((entry_Ahead.f k1 t490 t491 t494 ((rd_T26 t487 x14_1).f0) ((rd_T26 t487 x14_1).f1) ((rd_T26 t487 x14_1).f2) a2).bind fun t509 => (if t509 = true then (archivistlaw16_MergeEnds.l0 k1 a2 true t487 t496 t504 x13_1 (wrap64 (x14_1 + 1)) t490 t491 t494 t499 t500 t503) else (if x13_1 ≥ (t496.length : Int) then (none) else (if 0 ≤ x13_1 then (if x13_1 < (t496.length : Int) then ((entry_Same.f k1 ((rd_T26 t496 x13_1).f0) ((rd_T26 t496 x13_1).f1) ((rd_T26 t496 x13_1).f2) ((rd_T26 t487 x14_1).f0) ((rd_T26 t487 x14_1).f1) ((rd_T26 t487 x14_1).f2)).bind fun t512 => (if t512 = true then (archivistlaw16_MergeEnds.l0 k1 a2 true t487 t496 t504 (wrap64 (x13_1 + 1)) (wrap64 (x14_1 + 1)) t490 t491 t494 t499 t500 t503) else (none))) else (none)) else (none))))) = some r := by rw [if_neg (show ¬ (false = true) by decide)] at H; exact H
              clear H
              have H := H1
              clear H1
              replace H := Option.bind_eq_some_iff.mp H
              obtain ⟨t509, A330, H⟩ := H
              replace H : (if t509 = true then (archivistlaw16_MergeEnds.l0 k1 a2 true t487 t496 t504 x13_1 (wrap64 (x14_1 + 1)) t490 t491 t494 t499 t500 t503) else (if x13_1 ≥ (t496.length : Int) then (none) else (if 0 ≤ x13_1 then (if x13_1 < (t496.length : Int) then ((entry_Same.f k1 ((rd_T26 t496 x13_1).f0) ((rd_T26 t496 x13_1).f1) ((rd_T26 t496 x13_1).f2) ((rd_T26 t487 x14_1).f0) ((rd_T26 t487 x14_1).f1) ((rd_T26 t487 x14_1).f2)).bind fun t512 => (if t512 = true then (archivistlaw16_MergeEnds.l0 k1 a2 true t487 t496 t504 (wrap64 (x13_1 + 1)) (wrap64 (x14_1 + 1)) t490 t491 t494 t499 t500 t503) else (none))) else (none)) else (none)))) = some r := H
              have A33 := Aside0.mk A330
              clear A330
              by_cases c34 : t509 = true
              · subst c34
                have H1 : (archivistlaw16_MergeEnds.l0 k1 a2 true t487 t496 t504 x13_1 (wrap64 (x14_1 + 1)) t490 t491 t494 t499 t500 t503) = some r := by rw [if_pos rfl] at H; exact H
                clear H
                have H := H1
                clear H1
                have H' := Aside0.mk H
                clear H
                try go_wp2
                have n0_ := Aside0.mk (Kd.N_drew HO_8.out)
                have n1_ := Aside0.mk (Kd.N_drew HO_10.out)
                have n2_ := Aside0.mk (Kd.V_drew HO_496001.out)
                have n3_ := Aside0.mk (Kd.V_drew HO_506001.out)
                have n4_ := Aside0.mk (blk_drew BK485.out)
                have n5_ := Aside0.mk (blk_drew BK495.out)
                have n6_ := Aside0.mk (blk_drew BK505.out)
                have n7_ := Aside0.mk (below_drew1 HB.out)
                clear HO_8
                clear HO_10
                clear HO_496001
                clear HO_506001
                clear BK485
                clear BK495
                clear BK505
                clear HB
                have HO_8 := n0_
                have HO_10 := n1_
                have HO_496001 := n2_
                have HO_506001 := n3_
                have BK485 := n4_
                have BK495 := n5_
                have BK505 := n6_
                have HB := n7_
                clear n0_ n1_ n2_ n3_ n4_ n5_ n6_ n7_
                have p506 : 0 ≤ (x14_1 : Int) := of_decide_eq_true (by first | (with_reducible assumption) | assumption)
                have q506 : x14_1 < (t487.length : Int) := of_decide_eq_true (by first | (with_reducible assumption) | assumption)
                obtain ⟨ad506, A506_1, c506_1, e506, hx506_0, hx506_1, hx506_2, hl506_1, hi506_1⟩ := at_T26 (Kd.N_reads' HO_8.out).2.2 x14_1 p506 q506
                cases e506
                obtain ⟨ce506, hce506, hMe506, hcc506⟩ := Kd.N_get HO_8.out z26 x14_1 p506 (by first | exact q506 | exact of_decide_eq_true (by first | (with_reducible assumption) | assumption) | (have e_ := (Kd.N_reads' HO_8.out).1; omega))
                obtain ⟨ua506_1, uc506_1, rfl, ul506_1, ge506_1⟩ := k26_openF hMe506
                have hv506_1 := hcc506 1 _ rfl
                rw [add_field _ _ 1 (by omega)] at hv506_1
                replace hv506_1 := Option.some.inj (hv506_1.symm.trans hx506_1)
                injection hv506_1 with hva_ hvn_ hvc_
                rw [hva_] at ge506_1
                rw [hvc_] at ul506_1
                have HL506_1 := Aside0.mk (show Kd.V k103 103 _ w.heap.size _ _ ((rd_T26 t487 x14_1).f1) from Kd.V_mk ul506_1 ge506_1)
                clear hva_ hvn_ hvc_ ge506_1 ul506_1
                clear hcc506 hce506
                have HR506_1 := Aside0.mk hi506_1
                have HC506_1 := Aside0.mk hl506_1
                clear hi506_1 hl506_1
                replace p506 := eq_true p506
                replace q506 := eq_true q506
                refine start_ (n := 7) (S := fun w' => w'.cell? ⟨gb505, 0, none⟩ = some (.int .i64 t499) ∧ w'.cell? ⟨gb505, 1, none⟩ = some (.slice Ao28 t500.length co28) ∧ w'.cell? ⟨gb505, 2, none⟩ = some (.string t503) ∧ w'.cell? (ad506.add ((x14_1).toNat * 3)) = some (.int .i64 ((rd_T26 t487 x14_1).f0)) ∧ w'.cell? ⟨(ad506.add ((x14_1).toNat * 3)).block, (ad506.add ((x14_1).toNat * 3)).off + 1, none⟩ = some (.slice A506_1 ((rd_T26 t487 x14_1).f1).length c506_1) ∧ w'.cell? ⟨(ad506.add ((x14_1).toNat * 3)).block, (ad506.add ((x14_1).toNat * 3)).off + 2, none⟩ = some (.string ((rd_T26 t487 x14_1).f2))) (ds := []) #[false, false, false, false, false, false, false] (by kernel_rfl) rfl rfl ⟨(blk_cell BK505.out 0).trans rfl, (blk_cell BK505.out 1).trans rfl, (blk_cell BK505.out 2).trans rfl, hx506_0, hx506_1, hx506_2⟩ (fun hHeld => ?_)
                generalize wr.drew = w35 at HO_8 HO_10 HO_496001 HO_506001 BK485 BK495 BK505 HB HL506_1 HR506_1 hx506_0 hx506_1 hx506_2 hHeld ⊢
                refine pure_ (i := 0) (N := some 38) (v := ?_) (a' := ?_) #[true, false, false, false, false, false, false] rfl rfl (by kernel_rfl) (fun _ _ _ h => h) (Or.inl ⟨by rfl, ?_⟩) ?_ ?_
                rotate_left
                · intro w'
                  go_simp
                  with_reducible rfl
                rotate_left
                · simp only [Act.put, List.setIfInBounds_toArray, List.set_cons_zero, List.set_cons_succ, i64_w, i32_w]
                  rfl
                refine pure_ (i := 1) (N := some 39) (v := ?_) (a' := ?_) #[true, true, false, false, false, false, false] rfl rfl (by kernel_rfl) (fun _ _ _ h => h) (Or.inl ⟨by rfl, ?_⟩) ?_ ?_
                rotate_left
                · intro w'
                  go_simp
                  with_reducible rfl
                rotate_left
                · simp only [Act.put, List.setIfInBounds_toArray, List.set_cons_zero, List.set_cons_succ, i64_w, i32_w]
                  rfl
                refine pure_ (i := 2) (N := some 40) (v := ?_) (a' := ?_) #[true, true, true, false, false, false, false] rfl rfl (by kernel_rfl) (fun _ _ _ h => h) (Or.inl ⟨by rfl, ?_⟩) ?_ ?_
                rotate_left
                · intro w'
                  go_simp
                  with_reducible rfl
                rotate_left
                · simp only [Act.put, List.setIfInBounds_toArray, List.set_cons_zero, List.set_cons_succ, i64_w, i32_w]
                  rfl
                refine pure_ (i := 5) (N := some 43) (v := ?_) (a' := ?_) #[true, true, true, false, false, true, false] rfl rfl (by kernel_rfl) (fun _ _ _ h => h) (Or.inl ⟨by rfl, ?_⟩) ?_ ?_
                rotate_left
                · intro w'
                  go_simp
                  with_reducible rfl
                rotate_left
                · simp only [Act.put, List.setIfInBounds_toArray, List.set_cons_zero, List.set_cons_succ, i64_w, i32_w]
                  rfl
                refine take_ (i := 3) (N := some 41) (v := ?_) (a' := ?_) #[true, true, true, true, false, true, false] rfl rfl (by kernel_rfl) (fun _ _ _ h => h) (Or.inl ⟨by rfl, ?_⟩) hHeld ?_ ?_
                rotate_left
                · rintro w' ⟨s0, s1, s2, s3, s4, s5⟩
                  go_simp
                  with_reducible rfl
                rotate_left
                · simp only [Act.put, List.setIfInBounds_toArray, List.set_cons_zero, List.set_cons_succ, i64_w, i32_w]
                  rfl
                refine take_ (i := 4) (N := some 42) (v := ?_) (a' := ?_) #[true, true, true, true, true, true, false] rfl rfl (by kernel_rfl) (fun _ _ _ h => h) (Or.inl ⟨by rfl, ?_⟩) hHeld ?_ ?_
                rotate_left
                · rintro w' ⟨s0, s1, s2, s3, s4, s5⟩
                  go_simp
                  with_reducible rfl
                rotate_left
                · simp only [Act.put, List.setIfInBounds_toArray, List.set_cons_zero, List.set_cons_succ, i64_w, i32_w]
                  rfl
                refine one_ (i := 6) (N := some 44) #[true, true, true, true, true, true, true] rfl rfl (by kernel_rfl) (by decide) (fun K hK => ?_)
                refine goes_ Try.func23 (by kernel_rfl) rfl #[.agg #[.int .i64 ((rd_T26 t487 x14_1).f0), .slice A506_1 ((rd_T26 t487 x14_1).f1).length c506_1, .string ((rd_T26 t487 x14_1).f2)], .agg #[.int .i64 t499, .slice Ao28 t500.length co28, .string t503], .bool a2] (by rfl) rfl rfl (by (try simp only [List.map_toArray, List.map_cons, List.map_nil]); first | done | rfl | (simp only [List.length_drop, List.length_take]; rfl)) ?_
                with_reducible refine (entry_Ahead.calls k1 ((rd_T26 t487 x14_1).f0) _ _ ((rd_T26 t487 x14_1).f1) ((rd_T26 t487 x14_1).f2) t499 _ _ t500 t503 a2 false _ ?side1 ?side2 ?side3 ?side4 A31.out).mono ?_
                (case side1 => repeat (first | exact (by repeat (first | (with_reducible exact HR506_1.out) | (with_reducible refine Kd.C_alloc ?_ _) | (with_reducible refine Kd.C_drewN ?_ _) | (with_reducible refine Kd.C_drew ?_) | exact HR506_1.out)) | (with_reducible refine Kd.C_alloc ?_ _) | (with_reducible refine Kd.C_drewN ?_ _) | (with_reducible refine Kd.C_drew ?_)))
                (case side2 => exact HC506_1.out)
                (case side3 => repeat (first | exact (Kd.V_reads' HO_506001.out).2.2 | (with_reducible refine Kd.C_alloc ?_ _) | (with_reducible refine Kd.C_drewN ?_ _) | (with_reducible refine Kd.C_drew ?_)))
                (case side4 => exact (Kd.V_reads' HO_506001.out).2.1)
                rintro e w36 ⟨rfl, hb⟩
                have HS3_ := (hb.cell (World.block_lt_of_cell? _ _ (hHeld.2.2.2.1))).trans (hHeld.2.2.2.1)
                have HS4_ := (hb.cell (World.block_lt_of_cell? _ _ (hHeld.2.2.2.2.1))).trans (hHeld.2.2.2.2.1)
                have HS5_ := (hb.cell (World.block_lt_of_cell? _ _ (hHeld.2.2.2.2.2))).trans (hHeld.2.2.2.2.2)
                refine ⟨_, rfl, ?_⟩
                have n0_ := Aside0.mk (Kd.N_below (by (with_reducible repeat (first | apply Kd.N_alloc | apply Kd.N_drewN | apply Kd.N_drew)); exact HO_8.out) hb)
                have n1_ := Aside0.mk (Kd.N_below (by (with_reducible repeat (first | apply Kd.N_alloc | apply Kd.N_drewN | apply Kd.N_drew)); exact HO_10.out) hb)
                have n2_ := Aside0.mk (Kd.V_below (by (with_reducible repeat (first | apply Kd.V_alloc | apply Kd.V_drewN | apply Kd.V_drew)); exact HO_496001.out) hb)
                have n3_ := Aside0.mk (Kd.V_below (by (with_reducible repeat (first | apply Kd.V_alloc | apply Kd.V_drewN | apply Kd.V_drew)); exact HO_506001.out) hb)
                have n4_ := Aside0.mk (Kd.V_below (by (with_reducible repeat (first | apply Kd.V_alloc | apply Kd.V_drewN | apply Kd.V_drew)); exact HL506_1.out) hb)
                have n5_ := Aside0.mk (blk_below (g := gb485) (o := .cells #[.int .i64 a1_0, .slice A1_1 l1_1.length c1_1, .string a1_2, .bool a1_3, .int .i8 a1_4, .slice A1_5 l1_5.length c1_5, .int .u8 a1_6] 30 (0, 0)) (by (with_reducible repeat (first | refine blk_drewN ?_ _ | refine blk_drew ?_ | refine blk_alloc ?_ _)); exact BK485.out) hb)
                have n6_ := Aside0.mk (blk_below (g := gb495) (o := .cells #[.int .i64 t490, .slice Ao18 t491.length co18, .string t494] 26 (0, 0)) (by (with_reducible repeat (first | refine blk_drewN ?_ _ | refine blk_drew ?_ | refine blk_alloc ?_ _)); exact BK495.out) hb)
                have n7_ := Aside0.mk (blk_below (g := gb505) (o := .cells #[.int .i64 t499, .slice Ao28 t500.length co28, .string t503] 26 (0, 0)) (by (with_reducible repeat (first | refine blk_drewN ?_ _ | refine blk_drew ?_ | refine blk_alloc ?_ _)); exact BK505.out) hb)
                have n8_ := Aside0.mk (Kd.C_below (by repeat (first | (with_reducible exact HR506_1.out) | (with_reducible refine Kd.C_alloc ?_ _) | (with_reducible refine Kd.C_drewN ?_ _) | (with_reducible refine Kd.C_drew ?_) | exact HR506_1.out)) hb)
                have n9_ := Aside0.mk (below_step (by repeat (first | (with_reducible first | exact HB.out | apply below_alloc | apply pw_below_drewN | apply below_drew1 | refine below_set ?_ GE485.out | refine below_set ?_ GE495.out | refine below_set ?_ GE505.out) | exact HB.out)) hb)
                clear HO_8
                clear HO_10
                clear HO_496001
                clear HO_506001
                clear HL506_1
                clear BK485
                clear BK495
                clear BK505
                clear HR506_1
                clear HB
                have HO_8 := n0_
                have HO_10 := n1_
                have HO_496001 := n2_
                have HO_506001 := n3_
                have HL506_1 := n4_
                have BK485 := n5_
                have BK495 := n6_
                have BK505 := n7_
                have HR506_1 := n8_
                have HB := n9_
                clear n0_ n1_ n2_ n3_ n4_ n5_ n6_ n7_ n8_ n9_
                (try clear hb)
                (try clear hb2)
                (try clear hk)
                (try clear hi)
                refine hK.out _ _ ⟨(blk_cell BK505.out 0).trans rfl, (blk_cell BK505.out 1).trans rfl, (blk_cell BK505.out 2).trans rfl, HS3_, HS4_, HS5_⟩ (fun hHeld => ?_)
                clear hK K
                refine norm_ (a' := ?_) ?_ ?_
                rotate_left
                · show Act.put _ (some 44) _ = _
                  simp only [Act.put, List.setIfInBounds_toArray, List.set_cons_zero, List.set_cons_succ, i64_w, i32_w]
                  rfl
                refine done_ (by kernel_rfl) ?_
                try go_wp2
                have n0_ := Aside0.mk (Kd.N_drew HO_8.out)
                have n1_ := Aside0.mk (Kd.N_drew HO_10.out)
                have n2_ := Aside0.mk (Kd.V_drew HO_496001.out)
                have n3_ := Aside0.mk (Kd.V_drew HO_506001.out)
                have n4_ := Aside0.mk (Kd.V_drew HL506_1.out)
                have n5_ := Aside0.mk (blk_drew BK485.out)
                have n6_ := Aside0.mk (blk_drew BK495.out)
                have n7_ := Aside0.mk (blk_drew BK505.out)
                have n8_ := Aside0.mk (Kd.C_drew HR506_1.out)
                have n9_ := Aside0.mk (below_drew1 HB.out)
                clear HO_8
                clear HO_10
                clear HO_496001
                clear HO_506001
                clear HL506_1
                clear BK485
                clear BK495
                clear BK505
                clear HR506_1
                clear HB
                have HO_8 := n0_
                have HO_10 := n1_
                have HO_496001 := n2_
                have HO_506001 := n3_
                have HL506_1 := n4_
                have BK485 := n5_
                have BK495 := n6_
                have BK505 := n7_
                have HR506_1 := n8_
                have HB := n9_
                clear n0_ n1_ n2_ n3_ n4_ n5_ n6_ n7_ n8_ n9_
                have p508 : 0 ≤ (x14_1 : Int) := of_decide_eq_true (by first | (with_reducible assumption) | assumption)
                have q508 : x14_1 < (t487.length : Int) := of_decide_eq_true (by first | (with_reducible assumption) | assumption)
                obtain ⟨ad508, A508_1, c508_1, e508, hx508_0, hx508_1, hx508_2, hl508_1, hi508_1⟩ := at_T26 (Kd.N_reads' HO_8.out).2.2 x14_1 p508 q508
                obtain rfl : ad506 = ad508 := (by injection e508)
                obtain ⟨ce508, hce508, hMe508, hcc508⟩ := Kd.N_get HO_8.out z26 x14_1 p508 (by first | exact q508 | exact of_decide_eq_true (by first | (with_reducible assumption) | assumption) | (have e_ := (Kd.N_reads' HO_8.out).1; omega))
                obtain ⟨ua508_1, uc508_1, rfl, ul508_1, ge508_1⟩ := k26_openF hMe508
                have hv508_1 := hcc508 1 _ rfl
                rw [add_field _ _ 1 (by omega)] at hv508_1
                replace hv508_1 := Option.some.inj (hv508_1.symm.trans hx508_1)
                injection hv508_1 with hva_ hvn_ hvc_
                rw [hva_] at ge508_1
                rw [hvc_] at ul508_1
                have HL508_1 := Aside0.mk (show Kd.V k103 103 _ w.heap.size _ _ ((rd_T26 t487 x14_1).f1) from Kd.V_mk ul508_1 ge508_1)
                clear hva_ hvn_ hvc_ ge508_1 ul508_1
                clear hcc508 hce508
                have HR508_1 := Aside0.mk hi508_1
                have HC508_1 := Aside0.mk hl508_1
                clear hi508_1 hl508_1
                replace p508 := eq_true p508
                replace q508 := eq_true q508
                refine start_ (n := 7) (S := fun w' => w'.cell? ⟨gb495, 0, none⟩ = some (.int .i64 t490) ∧ w'.cell? ⟨gb495, 1, none⟩ = some (.slice Ao18 t491.length co18) ∧ w'.cell? ⟨gb495, 2, none⟩ = some (.string t494) ∧ w'.cell? (ad506.add ((x14_1).toNat * 3)) = some (.int .i64 ((rd_T26 t487 x14_1).f0)) ∧ w'.cell? ⟨(ad506.add ((x14_1).toNat * 3)).block, (ad506.add ((x14_1).toNat * 3)).off + 1, none⟩ = some (.slice A508_1 ((rd_T26 t487 x14_1).f1).length c508_1) ∧ w'.cell? ⟨(ad506.add ((x14_1).toNat * 3)).block, (ad506.add ((x14_1).toNat * 3)).off + 2, none⟩ = some (.string ((rd_T26 t487 x14_1).f2))) (ds := []) #[false, false, false, false, false, false, false] (by kernel_rfl) rfl rfl ⟨(blk_cell BK495.out 0).trans rfl, (blk_cell BK495.out 1).trans rfl, (blk_cell BK495.out 2).trans rfl, hx508_0, hx508_1, hx508_2⟩ (fun hHeld => ?_)
                generalize w36.drew = w37 at HO_8 HO_10 HO_496001 HO_506001 HL506_1 BK485 BK495 BK505 HR506_1 HB HL508_1 HR508_1 hx508_0 hx508_1 hx508_2 hHeld ⊢
                refine pure_ (i := 1) (N := some 46) (v := ?_) (a' := ?_) #[false, true, false, false, false, false, false] rfl rfl (by kernel_rfl) (fun _ _ _ h => h) (Or.inl ⟨by rfl, ?_⟩) ?_ ?_
                rotate_left
                · intro w'
                  go_simp
                  with_reducible rfl
                rotate_left
                · simp only [Act.put, List.setIfInBounds_toArray, List.set_cons_zero, List.set_cons_succ, i64_w, i32_w]
                  rfl
                refine pure_ (i := 2) (N := some 47) (v := ?_) (a' := ?_) #[false, true, true, false, false, false, false] rfl rfl (by kernel_rfl) (fun _ _ _ h => h) (Or.inl ⟨by rfl, ?_⟩) ?_ ?_
                rotate_left
                · intro w'
                  go_simp
                  with_reducible rfl
                rotate_left
                · simp only [Act.put, List.setIfInBounds_toArray, List.set_cons_zero, List.set_cons_succ, i64_w, i32_w]
                  rfl
                refine pure_ (i := 3) (N := some 48) (v := ?_) (a' := ?_) #[false, true, true, true, false, false, false] rfl rfl (by kernel_rfl) (fun _ _ _ h => h) (Or.inl ⟨by rfl, ?_⟩) ?_ ?_
                rotate_left
                · intro w'
                  go_simp
                  with_reducible rfl
                rotate_left
                · simp only [Act.put, List.setIfInBounds_toArray, List.set_cons_zero, List.set_cons_succ, i64_w, i32_w]
                  rfl
                refine pure_ (i := 5) (N := some 50) (v := ?_) (a' := ?_) #[false, true, true, true, false, true, false] rfl rfl (by kernel_rfl) (fun _ _ _ h => h) (Or.inl ⟨by rfl, ?_⟩) ?_ ?_
                rotate_left
                · intro w'
                  go_simp
                  with_reducible rfl
                rotate_left
                · simp only [Act.put, List.setIfInBounds_toArray, List.set_cons_zero, List.set_cons_succ, i64_w, i32_w]
                  rfl
                refine take_ (i := 0) (N := some 45) (v := ?_) (a' := ?_) #[true, true, true, true, false, true, false] rfl rfl (by kernel_rfl) (fun _ _ _ h => h) (Or.inl ⟨by rfl, ?_⟩) hHeld ?_ ?_
                rotate_left
                · rintro w' ⟨s0, s1, s2, s3, s4, s5⟩
                  go_simp
                  with_reducible rfl
                rotate_left
                · simp only [Act.put, List.setIfInBounds_toArray, List.set_cons_zero, List.set_cons_succ, i64_w, i32_w]
                  rfl
                refine take_ (i := 4) (N := some 49) (v := ?_) (a' := ?_) #[true, true, true, true, true, true, false] rfl rfl (by kernel_rfl) (fun _ _ _ h => h) (Or.inl ⟨by rfl, ?_⟩) hHeld ?_ ?_
                rotate_left
                · rintro w' ⟨s0, s1, s2, s3, s4, s5⟩
                  go_simp
                  with_reducible rfl
                rotate_left
                · simp only [Act.put, List.setIfInBounds_toArray, List.set_cons_zero, List.set_cons_succ, i64_w, i32_w]
                  rfl
                refine one_ (i := 6) (N := some 51) #[true, true, true, true, true, true, true] rfl rfl (by kernel_rfl) (by decide) (fun K hK => ?_)
                refine goes_ Try.func23 (by kernel_rfl) rfl #[.agg #[.int .i64 t490, .slice Ao18 t491.length co18, .string t494], .agg #[.int .i64 ((rd_T26 t487 x14_1).f0), .slice A508_1 ((rd_T26 t487 x14_1).f1).length c508_1, .string ((rd_T26 t487 x14_1).f2)], .bool a2] (by rfl) rfl rfl (by (try simp only [List.map_toArray, List.map_cons, List.map_nil]); first | done | rfl | (simp only [List.length_drop, List.length_take]; rfl)) ?_
                with_reducible refine (entry_Ahead.calls k1 t490 _ _ t491 t494 ((rd_T26 t487 x14_1).f0) _ _ ((rd_T26 t487 x14_1).f1) ((rd_T26 t487 x14_1).f2) a2 true _ ?side1 ?side2 ?side3 ?side4 A33.out).mono ?_
                (case side1 => repeat (first | exact (Kd.V_reads' HO_496001.out).2.2 | (with_reducible refine Kd.C_alloc ?_ _) | (with_reducible refine Kd.C_drewN ?_ _) | (with_reducible refine Kd.C_drew ?_)))
                (case side2 => exact (Kd.V_reads' HO_496001.out).2.1)
                (case side3 => repeat (first | exact (by repeat (first | (with_reducible exact HR508_1.out) | (with_reducible refine Kd.C_alloc ?_ _) | (with_reducible refine Kd.C_drewN ?_ _) | (with_reducible refine Kd.C_drew ?_) | exact HR508_1.out)) | (with_reducible refine Kd.C_alloc ?_ _) | (with_reducible refine Kd.C_drewN ?_ _) | (with_reducible refine Kd.C_drew ?_)))
                (case side4 => exact HC508_1.out)
                rintro e w38 ⟨rfl, hb⟩
                have HS3_ := (hb.cell (World.block_lt_of_cell? _ _ (hHeld.2.2.2.1))).trans (hHeld.2.2.2.1)
                have HS4_ := (hb.cell (World.block_lt_of_cell? _ _ (hHeld.2.2.2.2.1))).trans (hHeld.2.2.2.2.1)
                have HS5_ := (hb.cell (World.block_lt_of_cell? _ _ (hHeld.2.2.2.2.2))).trans (hHeld.2.2.2.2.2)
                refine ⟨_, rfl, ?_⟩
                have n0_ := Aside0.mk (Kd.N_below (by (with_reducible repeat (first | apply Kd.N_alloc | apply Kd.N_drewN | apply Kd.N_drew)); exact HO_8.out) hb)
                have n1_ := Aside0.mk (Kd.N_below (by (with_reducible repeat (first | apply Kd.N_alloc | apply Kd.N_drewN | apply Kd.N_drew)); exact HO_10.out) hb)
                have n2_ := Aside0.mk (Kd.V_below (by (with_reducible repeat (first | apply Kd.V_alloc | apply Kd.V_drewN | apply Kd.V_drew)); exact HO_496001.out) hb)
                have n3_ := Aside0.mk (Kd.V_below (by (with_reducible repeat (first | apply Kd.V_alloc | apply Kd.V_drewN | apply Kd.V_drew)); exact HO_506001.out) hb)
                have n4_ := Aside0.mk (Kd.V_below (by (with_reducible repeat (first | apply Kd.V_alloc | apply Kd.V_drewN | apply Kd.V_drew)); exact HL506_1.out) hb)
                have n5_ := Aside0.mk (Kd.V_below (by (with_reducible repeat (first | apply Kd.V_alloc | apply Kd.V_drewN | apply Kd.V_drew)); exact HL508_1.out) hb)
                have n6_ := Aside0.mk (blk_below (g := gb485) (o := .cells #[.int .i64 a1_0, .slice A1_1 l1_1.length c1_1, .string a1_2, .bool a1_3, .int .i8 a1_4, .slice A1_5 l1_5.length c1_5, .int .u8 a1_6] 30 (0, 0)) (by (with_reducible repeat (first | refine blk_drewN ?_ _ | refine blk_drew ?_ | refine blk_alloc ?_ _)); exact BK485.out) hb)
                have n7_ := Aside0.mk (blk_below (g := gb495) (o := .cells #[.int .i64 t490, .slice Ao18 t491.length co18, .string t494] 26 (0, 0)) (by (with_reducible repeat (first | refine blk_drewN ?_ _ | refine blk_drew ?_ | refine blk_alloc ?_ _)); exact BK495.out) hb)
                have n8_ := Aside0.mk (blk_below (g := gb505) (o := .cells #[.int .i64 t499, .slice Ao28 t500.length co28, .string t503] 26 (0, 0)) (by (with_reducible repeat (first | refine blk_drewN ?_ _ | refine blk_drew ?_ | refine blk_alloc ?_ _)); exact BK505.out) hb)
                have n9_ := Aside0.mk (Kd.C_below (by repeat (first | (with_reducible exact HR506_1.out) | (with_reducible refine Kd.C_alloc ?_ _) | (with_reducible refine Kd.C_drewN ?_ _) | (with_reducible refine Kd.C_drew ?_) | exact HR506_1.out)) hb)
                have n10_ := Aside0.mk (Kd.C_below (by repeat (first | (with_reducible exact HR508_1.out) | (with_reducible refine Kd.C_alloc ?_ _) | (with_reducible refine Kd.C_drewN ?_ _) | (with_reducible refine Kd.C_drew ?_) | exact HR508_1.out)) hb)
                have n11_ := Aside0.mk (below_step (by repeat (first | (with_reducible first | exact HB.out | apply below_alloc | apply pw_below_drewN | apply below_drew1 | refine below_set ?_ GE485.out | refine below_set ?_ GE495.out | refine below_set ?_ GE505.out) | exact HB.out)) hb)
                clear HO_8
                clear HO_10
                clear HO_496001
                clear HO_506001
                clear HL506_1
                clear HL508_1
                clear BK485
                clear BK495
                clear BK505
                clear HR506_1
                clear HR508_1
                clear HB
                have HO_8 := n0_
                have HO_10 := n1_
                have HO_496001 := n2_
                have HO_506001 := n3_
                have HL506_1 := n4_
                have HL508_1 := n5_
                have BK485 := n6_
                have BK495 := n7_
                have BK505 := n8_
                have HR506_1 := n9_
                have HR508_1 := n10_
                have HB := n11_
                clear n0_ n1_ n2_ n3_ n4_ n5_ n6_ n7_ n8_ n9_ n10_ n11_
                (try clear hb)
                (try clear hb2)
                (try clear hk)
                (try clear hi)
                refine hK.out _ _ ⟨(blk_cell BK495.out 0).trans rfl, (blk_cell BK495.out 1).trans rfl, (blk_cell BK495.out 2).trans rfl, HS3_, HS4_, HS5_⟩ (fun hHeld => ?_)
                clear hK K
                refine norm_ (a' := ?_) ?_ ?_
                rotate_left
                · show Act.put _ (some 51) _ = _
                  simp only [Act.put, List.setIfInBounds_toArray, List.set_cons_zero, List.set_cons_succ, i64_w, i32_w]
                  rfl
                refine done_ (by kernel_rfl) ?_
                try go_wp2
                go_roundg k1
                case measure => have := HK1.out; omega
                case rel => exact ⟨(x13_1), (wrap64 (x14_1 + 1)), (by first | rfl | (simp; done) | (simp [*]; done)), (by first | rfl | (simp; done) | (simp [*]; done)), H', ⟨by have := HK1.out; omega⟩, ⟨by (with_reducible repeat (first | apply Kd.N_alloc | apply Kd.N_drewN | apply Kd.N_drew)); exact HO_8.out⟩, ⟨by (with_reducible repeat (first | apply Kd.N_alloc | apply Kd.N_drewN | apply Kd.N_drew)); exact HO_10.out⟩, ⟨by (with_reducible repeat (first | apply Kd.V_alloc | apply Kd.V_drewN | apply Kd.V_drew)); exact HO_496001.out⟩, ⟨by (with_reducible repeat (first | apply Kd.V_alloc | apply Kd.V_drewN | apply Kd.V_drew)); exact HO_506001.out⟩, ⟨by (with_reducible repeat (first | refine blk_drewN ?_ _ | refine blk_drew ?_ | refine blk_alloc ?_ _)); exact BK485.out⟩, ⟨by (with_reducible repeat (first | refine blk_drewN ?_ _ | refine blk_drew ?_ | refine blk_alloc ?_ _)); exact BK495.out⟩, ⟨by (with_reducible repeat (first | refine blk_drewN ?_ _ | refine blk_drew ?_ | refine blk_alloc ?_ _)); exact BK505.out⟩, ⟨by repeat (first | (with_reducible first | exact HB.out | apply below_alloc | apply pw_below_drewN | apply below_drew1 | refine below_set ?_ GE485.out | refine below_set ?_ GE495.out | refine below_set ?_ GE505.out) | exact HB.out)⟩⟩
              · replace c34 := Bool.eq_false_iff.mpr c34
                subst c34
                have H1 : (if x13_1 ≥ (t496.length : Int) then (none) else (if 0 ≤ x13_1 then (if x13_1 < (t496.length : Int) then ((entry_Same.f k1 ((rd_T26 t496 x13_1).f0) ((rd_T26 t496 x13_1).f1) ((rd_T26 t496 x13_1).f2) ((rd_T26 t487 x14_1).f0) ((rd_T26 t487 x14_1).f1) ((rd_T26 t487 x14_1).f2)).bind fun t512 => (if t512 = true then (archivistlaw16_MergeEnds.l0 k1 a2 true t487 t496 t504 (wrap64 (x13_1 + 1)) (wrap64 (x14_1 + 1)) t490 t491 t494 t499 t500 t503) else (none))) else (none)) else (none))) = some r := by rw [if_neg (show ¬ (false = true) by decide)] at H; exact H
                clear H
                have H := H1
                clear H1
                by_cases c39 : x13_1 ≥ (t496.length : Int)
                · rw [if_pos c39] at H
                  have c39b0 : decide ((t496.length : Int) ≤ x13_1) = true := decide_eq_true c39
                  clear c39
                  exact absurd H (by simp)
                · rw [if_neg c39] at H
                  have c39b0 : decide ((t496.length : Int) ≤ x13_1) = false := decide_eq_false c39
                  clear c39
                  by_cases c40 : 0 ≤ x13_1
                  · rw [if_pos c40] at H
                    have c40b0 : decide (0 ≤ x13_1) = true := decide_eq_true c40
                    clear c40
                    by_cases c41 : x13_1 < (t496.length : Int)
                    · rw [if_pos c41] at H
                      have c41b0 : decide (x13_1 < (t496.length : Int)) = true := decide_eq_true c41
                      clear c41
                      replace H := Option.bind_eq_some_iff.mp H
                      obtain ⟨t512, A420, H⟩ := H
                      replace H : (if t512 = true then (archivistlaw16_MergeEnds.l0 k1 a2 true t487 t496 t504 (wrap64 (x13_1 + 1)) (wrap64 (x14_1 + 1)) t490 t491 t494 t499 t500 t503) else (none)) = some r := H
                      have A42 := Aside0.mk A420
                      clear A420
                      by_cases c43 : t512 = true
                      · subst c43
                        have H1 : (archivistlaw16_MergeEnds.l0 k1 a2 true t487 t496 t504 (wrap64 (x13_1 + 1)) (wrap64 (x14_1 + 1)) t490 t491 t494 t499 t500 t503) = some r := by rw [if_pos rfl] at H; exact H
                        clear H
                        have H := H1
                        clear H1
                        have H' := Aside0.mk H
                        clear H
                        try go_wp2
                        have n0_ := Aside0.mk (Kd.N_drew HO_8.out)
                        have n1_ := Aside0.mk (Kd.N_drew HO_10.out)
                        have n2_ := Aside0.mk (Kd.V_drew HO_496001.out)
                        have n3_ := Aside0.mk (Kd.V_drew HO_506001.out)
                        have n4_ := Aside0.mk (blk_drew BK485.out)
                        have n5_ := Aside0.mk (blk_drew BK495.out)
                        have n6_ := Aside0.mk (blk_drew BK505.out)
                        have n7_ := Aside0.mk (below_drew1 HB.out)
                        clear HO_8
                        clear HO_10
                        clear HO_496001
                        clear HO_506001
                        clear BK485
                        clear BK495
                        clear BK505
                        clear HB
                        have HO_8 := n0_
                        have HO_10 := n1_
                        have HO_496001 := n2_
                        have HO_506001 := n3_
                        have BK485 := n4_
                        have BK495 := n5_
                        have BK505 := n6_
                        have HB := n7_
                        clear n0_ n1_ n2_ n3_ n4_ n5_ n6_ n7_
                        have p506 : 0 ≤ (x14_1 : Int) := of_decide_eq_true (by first | (with_reducible assumption) | assumption)
                        have q506 : x14_1 < (t487.length : Int) := of_decide_eq_true (by first | (with_reducible assumption) | assumption)
                        obtain ⟨ad506, A506_1, c506_1, e506, hx506_0, hx506_1, hx506_2, hl506_1, hi506_1⟩ := at_T26 (Kd.N_reads' HO_8.out).2.2 x14_1 p506 q506
                        cases e506
                        obtain ⟨ce506, hce506, hMe506, hcc506⟩ := Kd.N_get HO_8.out z26 x14_1 p506 (by first | exact q506 | exact of_decide_eq_true (by first | (with_reducible assumption) | assumption) | (have e_ := (Kd.N_reads' HO_8.out).1; omega))
                        obtain ⟨ua506_1, uc506_1, rfl, ul506_1, ge506_1⟩ := k26_openF hMe506
                        have hv506_1 := hcc506 1 _ rfl
                        rw [add_field _ _ 1 (by omega)] at hv506_1
                        replace hv506_1 := Option.some.inj (hv506_1.symm.trans hx506_1)
                        injection hv506_1 with hva_ hvn_ hvc_
                        rw [hva_] at ge506_1
                        rw [hvc_] at ul506_1
                        have HL506_1 := Aside0.mk (show Kd.V k103 103 _ w.heap.size _ _ ((rd_T26 t487 x14_1).f1) from Kd.V_mk ul506_1 ge506_1)
                        clear hva_ hvn_ hvc_ ge506_1 ul506_1
                        clear hcc506 hce506
                        have HR506_1 := Aside0.mk hi506_1
                        have HC506_1 := Aside0.mk hl506_1
                        clear hi506_1 hl506_1
                        replace p506 := eq_true p506
                        replace q506 := eq_true q506
                        refine start_ (n := 7) (S := fun w' => w'.cell? ⟨gb505, 0, none⟩ = some (.int .i64 t499) ∧ w'.cell? ⟨gb505, 1, none⟩ = some (.slice Ao28 t500.length co28) ∧ w'.cell? ⟨gb505, 2, none⟩ = some (.string t503) ∧ w'.cell? (ad506.add ((x14_1).toNat * 3)) = some (.int .i64 ((rd_T26 t487 x14_1).f0)) ∧ w'.cell? ⟨(ad506.add ((x14_1).toNat * 3)).block, (ad506.add ((x14_1).toNat * 3)).off + 1, none⟩ = some (.slice A506_1 ((rd_T26 t487 x14_1).f1).length c506_1) ∧ w'.cell? ⟨(ad506.add ((x14_1).toNat * 3)).block, (ad506.add ((x14_1).toNat * 3)).off + 2, none⟩ = some (.string ((rd_T26 t487 x14_1).f2))) (ds := []) #[false, false, false, false, false, false, false] (by kernel_rfl) rfl rfl ⟨(blk_cell BK505.out 0).trans rfl, (blk_cell BK505.out 1).trans rfl, (blk_cell BK505.out 2).trans rfl, hx506_0, hx506_1, hx506_2⟩ (fun hHeld => ?_)
                        generalize wr.drew = w44 at HO_8 HO_10 HO_496001 HO_506001 BK485 BK495 BK505 HB HL506_1 HR506_1 hx506_0 hx506_1 hx506_2 hHeld ⊢
                        refine pure_ (i := 0) (N := some 38) (v := ?_) (a' := ?_) #[true, false, false, false, false, false, false] rfl rfl (by kernel_rfl) (fun _ _ _ h => h) (Or.inl ⟨by rfl, ?_⟩) ?_ ?_
                        rotate_left
                        · intro w'
                          go_simp
                          with_reducible rfl
                        rotate_left
                        · simp only [Act.put, List.setIfInBounds_toArray, List.set_cons_zero, List.set_cons_succ, i64_w, i32_w]
                          rfl
                        refine pure_ (i := 1) (N := some 39) (v := ?_) (a' := ?_) #[true, true, false, false, false, false, false] rfl rfl (by kernel_rfl) (fun _ _ _ h => h) (Or.inl ⟨by rfl, ?_⟩) ?_ ?_
                        rotate_left
                        · intro w'
                          go_simp
                          with_reducible rfl
                        rotate_left
                        · simp only [Act.put, List.setIfInBounds_toArray, List.set_cons_zero, List.set_cons_succ, i64_w, i32_w]
                          rfl
                        refine pure_ (i := 2) (N := some 40) (v := ?_) (a' := ?_) #[true, true, true, false, false, false, false] rfl rfl (by kernel_rfl) (fun _ _ _ h => h) (Or.inl ⟨by rfl, ?_⟩) ?_ ?_
                        rotate_left
                        · intro w'
                          go_simp
                          with_reducible rfl
                        rotate_left
                        · simp only [Act.put, List.setIfInBounds_toArray, List.set_cons_zero, List.set_cons_succ, i64_w, i32_w]
                          rfl
                        refine pure_ (i := 5) (N := some 43) (v := ?_) (a' := ?_) #[true, true, true, false, false, true, false] rfl rfl (by kernel_rfl) (fun _ _ _ h => h) (Or.inl ⟨by rfl, ?_⟩) ?_ ?_
                        rotate_left
                        · intro w'
                          go_simp
                          with_reducible rfl
                        rotate_left
                        · simp only [Act.put, List.setIfInBounds_toArray, List.set_cons_zero, List.set_cons_succ, i64_w, i32_w]
                          rfl
                        refine take_ (i := 3) (N := some 41) (v := ?_) (a' := ?_) #[true, true, true, true, false, true, false] rfl rfl (by kernel_rfl) (fun _ _ _ h => h) (Or.inl ⟨by rfl, ?_⟩) hHeld ?_ ?_
                        rotate_left
                        · rintro w' ⟨s0, s1, s2, s3, s4, s5⟩
                          go_simp
                          with_reducible rfl
                        rotate_left
                        · simp only [Act.put, List.setIfInBounds_toArray, List.set_cons_zero, List.set_cons_succ, i64_w, i32_w]
                          rfl
                        refine take_ (i := 4) (N := some 42) (v := ?_) (a' := ?_) #[true, true, true, true, true, true, false] rfl rfl (by kernel_rfl) (fun _ _ _ h => h) (Or.inl ⟨by rfl, ?_⟩) hHeld ?_ ?_
                        rotate_left
                        · rintro w' ⟨s0, s1, s2, s3, s4, s5⟩
                          go_simp
                          with_reducible rfl
                        rotate_left
                        · simp only [Act.put, List.setIfInBounds_toArray, List.set_cons_zero, List.set_cons_succ, i64_w, i32_w]
                          rfl
                        refine one_ (i := 6) (N := some 44) #[true, true, true, true, true, true, true] rfl rfl (by kernel_rfl) (by decide) (fun K hK => ?_)
                        refine goes_ Try.func23 (by kernel_rfl) rfl #[.agg #[.int .i64 ((rd_T26 t487 x14_1).f0), .slice A506_1 ((rd_T26 t487 x14_1).f1).length c506_1, .string ((rd_T26 t487 x14_1).f2)], .agg #[.int .i64 t499, .slice Ao28 t500.length co28, .string t503], .bool a2] (by rfl) rfl rfl (by (try simp only [List.map_toArray, List.map_cons, List.map_nil]); first | done | rfl | (simp only [List.length_drop, List.length_take]; rfl)) ?_
                        with_reducible refine (entry_Ahead.calls k1 ((rd_T26 t487 x14_1).f0) _ _ ((rd_T26 t487 x14_1).f1) ((rd_T26 t487 x14_1).f2) t499 _ _ t500 t503 a2 false _ ?side1 ?side2 ?side3 ?side4 A31.out).mono ?_
                        (case side1 => repeat (first | exact (by repeat (first | (with_reducible exact HR506_1.out) | (with_reducible refine Kd.C_alloc ?_ _) | (with_reducible refine Kd.C_drewN ?_ _) | (with_reducible refine Kd.C_drew ?_) | exact HR506_1.out)) | (with_reducible refine Kd.C_alloc ?_ _) | (with_reducible refine Kd.C_drewN ?_ _) | (with_reducible refine Kd.C_drew ?_)))
                        (case side2 => exact HC506_1.out)
                        (case side3 => repeat (first | exact (Kd.V_reads' HO_506001.out).2.2 | (with_reducible refine Kd.C_alloc ?_ _) | (with_reducible refine Kd.C_drewN ?_ _) | (with_reducible refine Kd.C_drew ?_)))
                        (case side4 => exact (Kd.V_reads' HO_506001.out).2.1)
                        rintro e w45 ⟨rfl, hb⟩
                        have HS3_ := (hb.cell (World.block_lt_of_cell? _ _ (hHeld.2.2.2.1))).trans (hHeld.2.2.2.1)
                        have HS4_ := (hb.cell (World.block_lt_of_cell? _ _ (hHeld.2.2.2.2.1))).trans (hHeld.2.2.2.2.1)
                        have HS5_ := (hb.cell (World.block_lt_of_cell? _ _ (hHeld.2.2.2.2.2))).trans (hHeld.2.2.2.2.2)
                        refine ⟨_, rfl, ?_⟩
                        have n0_ := Aside0.mk (Kd.N_below (by (with_reducible repeat (first | apply Kd.N_alloc | apply Kd.N_drewN | apply Kd.N_drew)); exact HO_8.out) hb)
                        have n1_ := Aside0.mk (Kd.N_below (by (with_reducible repeat (first | apply Kd.N_alloc | apply Kd.N_drewN | apply Kd.N_drew)); exact HO_10.out) hb)
                        have n2_ := Aside0.mk (Kd.V_below (by (with_reducible repeat (first | apply Kd.V_alloc | apply Kd.V_drewN | apply Kd.V_drew)); exact HO_496001.out) hb)
                        have n3_ := Aside0.mk (Kd.V_below (by (with_reducible repeat (first | apply Kd.V_alloc | apply Kd.V_drewN | apply Kd.V_drew)); exact HO_506001.out) hb)
                        have n4_ := Aside0.mk (Kd.V_below (by (with_reducible repeat (first | apply Kd.V_alloc | apply Kd.V_drewN | apply Kd.V_drew)); exact HL506_1.out) hb)
                        have n5_ := Aside0.mk (blk_below (g := gb485) (o := .cells #[.int .i64 a1_0, .slice A1_1 l1_1.length c1_1, .string a1_2, .bool a1_3, .int .i8 a1_4, .slice A1_5 l1_5.length c1_5, .int .u8 a1_6] 30 (0, 0)) (by (with_reducible repeat (first | refine blk_drewN ?_ _ | refine blk_drew ?_ | refine blk_alloc ?_ _)); exact BK485.out) hb)
                        have n6_ := Aside0.mk (blk_below (g := gb495) (o := .cells #[.int .i64 t490, .slice Ao18 t491.length co18, .string t494] 26 (0, 0)) (by (with_reducible repeat (first | refine blk_drewN ?_ _ | refine blk_drew ?_ | refine blk_alloc ?_ _)); exact BK495.out) hb)
                        have n7_ := Aside0.mk (blk_below (g := gb505) (o := .cells #[.int .i64 t499, .slice Ao28 t500.length co28, .string t503] 26 (0, 0)) (by (with_reducible repeat (first | refine blk_drewN ?_ _ | refine blk_drew ?_ | refine blk_alloc ?_ _)); exact BK505.out) hb)
                        have n8_ := Aside0.mk (Kd.C_below (by repeat (first | (with_reducible exact HR506_1.out) | (with_reducible refine Kd.C_alloc ?_ _) | (with_reducible refine Kd.C_drewN ?_ _) | (with_reducible refine Kd.C_drew ?_) | exact HR506_1.out)) hb)
                        have n9_ := Aside0.mk (below_step (by repeat (first | (with_reducible first | exact HB.out | apply below_alloc | apply pw_below_drewN | apply below_drew1 | refine below_set ?_ GE485.out | refine below_set ?_ GE495.out | refine below_set ?_ GE505.out) | exact HB.out)) hb)
                        clear HO_8
                        clear HO_10
                        clear HO_496001
                        clear HO_506001
                        clear HL506_1
                        clear BK485
                        clear BK495
                        clear BK505
                        clear HR506_1
                        clear HB
                        have HO_8 := n0_
                        have HO_10 := n1_
                        have HO_496001 := n2_
                        have HO_506001 := n3_
                        have HL506_1 := n4_
                        have BK485 := n5_
                        have BK495 := n6_
                        have BK505 := n7_
                        have HR506_1 := n8_
                        have HB := n9_
                        clear n0_ n1_ n2_ n3_ n4_ n5_ n6_ n7_ n8_ n9_
                        (try clear hb)
                        (try clear hb2)
                        (try clear hk)
                        (try clear hi)
                        refine hK.out _ _ ⟨(blk_cell BK505.out 0).trans rfl, (blk_cell BK505.out 1).trans rfl, (blk_cell BK505.out 2).trans rfl, HS3_, HS4_, HS5_⟩ (fun hHeld => ?_)
                        clear hK K
                        refine norm_ (a' := ?_) ?_ ?_
                        rotate_left
                        · show Act.put _ (some 44) _ = _
                          simp only [Act.put, List.setIfInBounds_toArray, List.set_cons_zero, List.set_cons_succ, i64_w, i32_w]
                          rfl
                        refine done_ (by kernel_rfl) ?_
                        try go_wp2
                        have n0_ := Aside0.mk (Kd.N_drew HO_8.out)
                        have n1_ := Aside0.mk (Kd.N_drew HO_10.out)
                        have n2_ := Aside0.mk (Kd.V_drew HO_496001.out)
                        have n3_ := Aside0.mk (Kd.V_drew HO_506001.out)
                        have n4_ := Aside0.mk (Kd.V_drew HL506_1.out)
                        have n5_ := Aside0.mk (blk_drew BK485.out)
                        have n6_ := Aside0.mk (blk_drew BK495.out)
                        have n7_ := Aside0.mk (blk_drew BK505.out)
                        have n8_ := Aside0.mk (Kd.C_drew HR506_1.out)
                        have n9_ := Aside0.mk (below_drew1 HB.out)
                        clear HO_8
                        clear HO_10
                        clear HO_496001
                        clear HO_506001
                        clear HL506_1
                        clear BK485
                        clear BK495
                        clear BK505
                        clear HR506_1
                        clear HB
                        have HO_8 := n0_
                        have HO_10 := n1_
                        have HO_496001 := n2_
                        have HO_506001 := n3_
                        have HL506_1 := n4_
                        have BK485 := n5_
                        have BK495 := n6_
                        have BK505 := n7_
                        have HR506_1 := n8_
                        have HB := n9_
                        clear n0_ n1_ n2_ n3_ n4_ n5_ n6_ n7_ n8_ n9_
                        have p508 : 0 ≤ (x14_1 : Int) := of_decide_eq_true (by first | (with_reducible assumption) | assumption)
                        have q508 : x14_1 < (t487.length : Int) := of_decide_eq_true (by first | (with_reducible assumption) | assumption)
                        obtain ⟨ad508, A508_1, c508_1, e508, hx508_0, hx508_1, hx508_2, hl508_1, hi508_1⟩ := at_T26 (Kd.N_reads' HO_8.out).2.2 x14_1 p508 q508
                        obtain rfl : ad506 = ad508 := (by injection e508)
                        obtain ⟨ce508, hce508, hMe508, hcc508⟩ := Kd.N_get HO_8.out z26 x14_1 p508 (by first | exact q508 | exact of_decide_eq_true (by first | (with_reducible assumption) | assumption) | (have e_ := (Kd.N_reads' HO_8.out).1; omega))
                        obtain ⟨ua508_1, uc508_1, rfl, ul508_1, ge508_1⟩ := k26_openF hMe508
                        have hv508_1 := hcc508 1 _ rfl
                        rw [add_field _ _ 1 (by omega)] at hv508_1
                        replace hv508_1 := Option.some.inj (hv508_1.symm.trans hx508_1)
                        injection hv508_1 with hva_ hvn_ hvc_
                        rw [hva_] at ge508_1
                        rw [hvc_] at ul508_1
                        have HL508_1 := Aside0.mk (show Kd.V k103 103 _ w.heap.size _ _ ((rd_T26 t487 x14_1).f1) from Kd.V_mk ul508_1 ge508_1)
                        clear hva_ hvn_ hvc_ ge508_1 ul508_1
                        clear hcc508 hce508
                        have HR508_1 := Aside0.mk hi508_1
                        have HC508_1 := Aside0.mk hl508_1
                        clear hi508_1 hl508_1
                        replace p508 := eq_true p508
                        replace q508 := eq_true q508
                        refine start_ (n := 7) (S := fun w' => w'.cell? ⟨gb495, 0, none⟩ = some (.int .i64 t490) ∧ w'.cell? ⟨gb495, 1, none⟩ = some (.slice Ao18 t491.length co18) ∧ w'.cell? ⟨gb495, 2, none⟩ = some (.string t494) ∧ w'.cell? (ad506.add ((x14_1).toNat * 3)) = some (.int .i64 ((rd_T26 t487 x14_1).f0)) ∧ w'.cell? ⟨(ad506.add ((x14_1).toNat * 3)).block, (ad506.add ((x14_1).toNat * 3)).off + 1, none⟩ = some (.slice A508_1 ((rd_T26 t487 x14_1).f1).length c508_1) ∧ w'.cell? ⟨(ad506.add ((x14_1).toNat * 3)).block, (ad506.add ((x14_1).toNat * 3)).off + 2, none⟩ = some (.string ((rd_T26 t487 x14_1).f2))) (ds := []) #[false, false, false, false, false, false, false] (by kernel_rfl) rfl rfl ⟨(blk_cell BK495.out 0).trans rfl, (blk_cell BK495.out 1).trans rfl, (blk_cell BK495.out 2).trans rfl, hx508_0, hx508_1, hx508_2⟩ (fun hHeld => ?_)
                        generalize w45.drew = w46 at HO_8 HO_10 HO_496001 HO_506001 HL506_1 BK485 BK495 BK505 HR506_1 HB HL508_1 HR508_1 hx508_0 hx508_1 hx508_2 hHeld ⊢
                        refine pure_ (i := 1) (N := some 46) (v := ?_) (a' := ?_) #[false, true, false, false, false, false, false] rfl rfl (by kernel_rfl) (fun _ _ _ h => h) (Or.inl ⟨by rfl, ?_⟩) ?_ ?_
                        rotate_left
                        · intro w'
                          go_simp
                          with_reducible rfl
                        rotate_left
                        · simp only [Act.put, List.setIfInBounds_toArray, List.set_cons_zero, List.set_cons_succ, i64_w, i32_w]
                          rfl
                        refine pure_ (i := 2) (N := some 47) (v := ?_) (a' := ?_) #[false, true, true, false, false, false, false] rfl rfl (by kernel_rfl) (fun _ _ _ h => h) (Or.inl ⟨by rfl, ?_⟩) ?_ ?_
                        rotate_left
                        · intro w'
                          go_simp
                          with_reducible rfl
                        rotate_left
                        · simp only [Act.put, List.setIfInBounds_toArray, List.set_cons_zero, List.set_cons_succ, i64_w, i32_w]
                          rfl
                        refine pure_ (i := 3) (N := some 48) (v := ?_) (a' := ?_) #[false, true, true, true, false, false, false] rfl rfl (by kernel_rfl) (fun _ _ _ h => h) (Or.inl ⟨by rfl, ?_⟩) ?_ ?_
                        rotate_left
                        · intro w'
                          go_simp
                          with_reducible rfl
                        rotate_left
                        · simp only [Act.put, List.setIfInBounds_toArray, List.set_cons_zero, List.set_cons_succ, i64_w, i32_w]
                          rfl
                        refine pure_ (i := 5) (N := some 50) (v := ?_) (a' := ?_) #[false, true, true, true, false, true, false] rfl rfl (by kernel_rfl) (fun _ _ _ h => h) (Or.inl ⟨by rfl, ?_⟩) ?_ ?_
                        rotate_left
                        · intro w'
                          go_simp
                          with_reducible rfl
                        rotate_left
                        · simp only [Act.put, List.setIfInBounds_toArray, List.set_cons_zero, List.set_cons_succ, i64_w, i32_w]
                          rfl
                        refine take_ (i := 0) (N := some 45) (v := ?_) (a' := ?_) #[true, true, true, true, false, true, false] rfl rfl (by kernel_rfl) (fun _ _ _ h => h) (Or.inl ⟨by rfl, ?_⟩) hHeld ?_ ?_
                        rotate_left
                        · rintro w' ⟨s0, s1, s2, s3, s4, s5⟩
                          go_simp
                          with_reducible rfl
                        rotate_left
                        · simp only [Act.put, List.setIfInBounds_toArray, List.set_cons_zero, List.set_cons_succ, i64_w, i32_w]
                          rfl
                        refine take_ (i := 4) (N := some 49) (v := ?_) (a' := ?_) #[true, true, true, true, true, true, false] rfl rfl (by kernel_rfl) (fun _ _ _ h => h) (Or.inl ⟨by rfl, ?_⟩) hHeld ?_ ?_
                        rotate_left
                        · rintro w' ⟨s0, s1, s2, s3, s4, s5⟩
                          go_simp
                          with_reducible rfl
                        rotate_left
                        · simp only [Act.put, List.setIfInBounds_toArray, List.set_cons_zero, List.set_cons_succ, i64_w, i32_w]
                          rfl
                        refine one_ (i := 6) (N := some 51) #[true, true, true, true, true, true, true] rfl rfl (by kernel_rfl) (by decide) (fun K hK => ?_)
                        refine goes_ Try.func23 (by kernel_rfl) rfl #[.agg #[.int .i64 t490, .slice Ao18 t491.length co18, .string t494], .agg #[.int .i64 ((rd_T26 t487 x14_1).f0), .slice A508_1 ((rd_T26 t487 x14_1).f1).length c508_1, .string ((rd_T26 t487 x14_1).f2)], .bool a2] (by rfl) rfl rfl (by (try simp only [List.map_toArray, List.map_cons, List.map_nil]); first | done | rfl | (simp only [List.length_drop, List.length_take]; rfl)) ?_
                        with_reducible refine (entry_Ahead.calls k1 t490 _ _ t491 t494 ((rd_T26 t487 x14_1).f0) _ _ ((rd_T26 t487 x14_1).f1) ((rd_T26 t487 x14_1).f2) a2 false _ ?side1 ?side2 ?side3 ?side4 A33.out).mono ?_
                        (case side1 => repeat (first | exact (Kd.V_reads' HO_496001.out).2.2 | (with_reducible refine Kd.C_alloc ?_ _) | (with_reducible refine Kd.C_drewN ?_ _) | (with_reducible refine Kd.C_drew ?_)))
                        (case side2 => exact (Kd.V_reads' HO_496001.out).2.1)
                        (case side3 => repeat (first | exact (by repeat (first | (with_reducible exact HR508_1.out) | (with_reducible refine Kd.C_alloc ?_ _) | (with_reducible refine Kd.C_drewN ?_ _) | (with_reducible refine Kd.C_drew ?_) | exact HR508_1.out)) | (with_reducible refine Kd.C_alloc ?_ _) | (with_reducible refine Kd.C_drewN ?_ _) | (with_reducible refine Kd.C_drew ?_)))
                        (case side4 => exact HC508_1.out)
                        rintro e w47 ⟨rfl, hb⟩
                        have HS3_ := (hb.cell (World.block_lt_of_cell? _ _ (hHeld.2.2.2.1))).trans (hHeld.2.2.2.1)
                        have HS4_ := (hb.cell (World.block_lt_of_cell? _ _ (hHeld.2.2.2.2.1))).trans (hHeld.2.2.2.2.1)
                        have HS5_ := (hb.cell (World.block_lt_of_cell? _ _ (hHeld.2.2.2.2.2))).trans (hHeld.2.2.2.2.2)
                        refine ⟨_, rfl, ?_⟩
                        have n0_ := Aside0.mk (Kd.N_below (by (with_reducible repeat (first | apply Kd.N_alloc | apply Kd.N_drewN | apply Kd.N_drew)); exact HO_8.out) hb)
                        have n1_ := Aside0.mk (Kd.N_below (by (with_reducible repeat (first | apply Kd.N_alloc | apply Kd.N_drewN | apply Kd.N_drew)); exact HO_10.out) hb)
                        have n2_ := Aside0.mk (Kd.V_below (by (with_reducible repeat (first | apply Kd.V_alloc | apply Kd.V_drewN | apply Kd.V_drew)); exact HO_496001.out) hb)
                        have n3_ := Aside0.mk (Kd.V_below (by (with_reducible repeat (first | apply Kd.V_alloc | apply Kd.V_drewN | apply Kd.V_drew)); exact HO_506001.out) hb)
                        have n4_ := Aside0.mk (Kd.V_below (by (with_reducible repeat (first | apply Kd.V_alloc | apply Kd.V_drewN | apply Kd.V_drew)); exact HL506_1.out) hb)
                        have n5_ := Aside0.mk (Kd.V_below (by (with_reducible repeat (first | apply Kd.V_alloc | apply Kd.V_drewN | apply Kd.V_drew)); exact HL508_1.out) hb)
                        have n6_ := Aside0.mk (blk_below (g := gb485) (o := .cells #[.int .i64 a1_0, .slice A1_1 l1_1.length c1_1, .string a1_2, .bool a1_3, .int .i8 a1_4, .slice A1_5 l1_5.length c1_5, .int .u8 a1_6] 30 (0, 0)) (by (with_reducible repeat (first | refine blk_drewN ?_ _ | refine blk_drew ?_ | refine blk_alloc ?_ _)); exact BK485.out) hb)
                        have n7_ := Aside0.mk (blk_below (g := gb495) (o := .cells #[.int .i64 t490, .slice Ao18 t491.length co18, .string t494] 26 (0, 0)) (by (with_reducible repeat (first | refine blk_drewN ?_ _ | refine blk_drew ?_ | refine blk_alloc ?_ _)); exact BK495.out) hb)
                        have n8_ := Aside0.mk (blk_below (g := gb505) (o := .cells #[.int .i64 t499, .slice Ao28 t500.length co28, .string t503] 26 (0, 0)) (by (with_reducible repeat (first | refine blk_drewN ?_ _ | refine blk_drew ?_ | refine blk_alloc ?_ _)); exact BK505.out) hb)
                        have n9_ := Aside0.mk (Kd.C_below (by repeat (first | (with_reducible exact HR506_1.out) | (with_reducible refine Kd.C_alloc ?_ _) | (with_reducible refine Kd.C_drewN ?_ _) | (with_reducible refine Kd.C_drew ?_) | exact HR506_1.out)) hb)
                        have n10_ := Aside0.mk (Kd.C_below (by repeat (first | (with_reducible exact HR508_1.out) | (with_reducible refine Kd.C_alloc ?_ _) | (with_reducible refine Kd.C_drewN ?_ _) | (with_reducible refine Kd.C_drew ?_) | exact HR508_1.out)) hb)
                        have n11_ := Aside0.mk (below_step (by repeat (first | (with_reducible first | exact HB.out | apply below_alloc | apply pw_below_drewN | apply below_drew1 | refine below_set ?_ GE485.out | refine below_set ?_ GE495.out | refine below_set ?_ GE505.out) | exact HB.out)) hb)
                        clear HO_8
                        clear HO_10
                        clear HO_496001
                        clear HO_506001
                        clear HL506_1
                        clear HL508_1
                        clear BK485
                        clear BK495
                        clear BK505
                        clear HR506_1
                        clear HR508_1
                        clear HB
                        have HO_8 := n0_
                        have HO_10 := n1_
                        have HO_496001 := n2_
                        have HO_506001 := n3_
                        have HL506_1 := n4_
                        have HL508_1 := n5_
                        have BK485 := n6_
                        have BK495 := n7_
                        have BK505 := n8_
                        have HR506_1 := n9_
                        have HR508_1 := n10_
                        have HB := n11_
                        clear n0_ n1_ n2_ n3_ n4_ n5_ n6_ n7_ n8_ n9_ n10_ n11_
                        (try clear hb)
                        (try clear hb2)
                        (try clear hk)
                        (try clear hi)
                        refine hK.out _ _ ⟨(blk_cell BK495.out 0).trans rfl, (blk_cell BK495.out 1).trans rfl, (blk_cell BK495.out 2).trans rfl, HS3_, HS4_, HS5_⟩ (fun hHeld => ?_)
                        clear hK K
                        refine norm_ (a' := ?_) ?_ ?_
                        rotate_left
                        · show Act.put _ (some 51) _ = _
                          simp only [Act.put, List.setIfInBounds_toArray, List.set_cons_zero, List.set_cons_succ, i64_w, i32_w]
                          rfl
                        refine done_ (by kernel_rfl) ?_
                        try go_wp2
                        have n0_ := Aside0.mk (Kd.N_drew HO_8.out)
                        have n1_ := Aside0.mk (Kd.N_drew HO_10.out)
                        have n2_ := Aside0.mk (Kd.V_drew HO_496001.out)
                        have n3_ := Aside0.mk (Kd.V_drew HO_506001.out)
                        have n4_ := Aside0.mk (Kd.V_drew HL506_1.out)
                        have n5_ := Aside0.mk (Kd.V_drew HL508_1.out)
                        have n6_ := Aside0.mk (blk_drew BK485.out)
                        have n7_ := Aside0.mk (blk_drew BK495.out)
                        have n8_ := Aside0.mk (blk_drew BK505.out)
                        have n9_ := Aside0.mk (Kd.C_drew HR506_1.out)
                        have n10_ := Aside0.mk (Kd.C_drew HR508_1.out)
                        have n11_ := Aside0.mk (below_drew1 HB.out)
                        clear HO_8
                        clear HO_10
                        clear HO_496001
                        clear HO_506001
                        clear HL506_1
                        clear HL508_1
                        clear BK485
                        clear BK495
                        clear BK505
                        clear HR506_1
                        clear HR508_1
                        clear HB
                        have HO_8 := n0_
                        have HO_10 := n1_
                        have HO_496001 := n2_
                        have HO_506001 := n3_
                        have HL506_1 := n4_
                        have HL508_1 := n5_
                        have BK485 := n6_
                        have BK495 := n7_
                        have BK505 := n8_
                        have HR506_1 := n9_
                        have HR508_1 := n10_
                        have HB := n11_
                        clear n0_ n1_ n2_ n3_ n4_ n5_ n6_ n7_ n8_ n9_ n10_ n11_
                        obtain ⟨Ao49, co49, eo49⟩ := Kd.N_slice HO_10.out
                        (first | subst eo49 | (injection eo49 with f1_ f2_ f3_; have f4_ := f1_.symm; have f5_ := f3_.symm; clear f1_ f2_ f3_; subst f4_; subst f5_))
                        have p510 : 0 ≤ (x13_1 : Int) := of_decide_eq_true (by first | (with_reducible assumption) | assumption)
                        have q510 : x13_1 < (t496.length : Int) := of_decide_eq_true (by first | (with_reducible assumption) | assumption)
                        obtain ⟨ad510, A510_1, c510_1, e510, hx510_0, hx510_1, hx510_2, hl510_1, hi510_1⟩ := at_T26 (Kd.N_reads' HO_10.out).2.2 x13_1 p510 q510
                        cases e510
                        obtain ⟨ce510, hce510, hMe510, hcc510⟩ := Kd.N_get HO_10.out z26 x13_1 p510 (by first | exact q510 | exact of_decide_eq_true (by first | (with_reducible assumption) | assumption) | (have e_ := (Kd.N_reads' HO_10.out).1; omega))
                        obtain ⟨ua510_1, uc510_1, rfl, ul510_1, ge510_1⟩ := k26_openF hMe510
                        have hv510_1 := hcc510 1 _ rfl
                        rw [add_field _ _ 1 (by omega)] at hv510_1
                        replace hv510_1 := Option.some.inj (hv510_1.symm.trans hx510_1)
                        injection hv510_1 with hva_ hvn_ hvc_
                        rw [hva_] at ge510_1
                        rw [hvc_] at ul510_1
                        have HL510_1 := Aside0.mk (show Kd.V k103 103 _ w.heap.size _ _ ((rd_T26 t496 x13_1).f1) from Kd.V_mk ul510_1 ge510_1)
                        clear hva_ hvn_ hvc_ ge510_1 ul510_1
                        clear hcc510 hce510
                        have HR510_1 := Aside0.mk hi510_1
                        have HC510_1 := Aside0.mk hl510_1
                        clear hi510_1 hl510_1
                        replace p510 := eq_true p510
                        replace q510 := eq_true q510
                        have p511 : 0 ≤ (x14_1 : Int) := of_decide_eq_true (by first | (with_reducible assumption) | assumption)
                        have q511 : x14_1 < (t487.length : Int) := of_decide_eq_true (by first | (with_reducible assumption) | assumption)
                        obtain ⟨ad511, A511_1, c511_1, e511, hx511_0, hx511_1, hx511_2, hl511_1, hi511_1⟩ := at_T26 (Kd.N_reads' HO_8.out).2.2 x14_1 p511 q511
                        obtain rfl : ad506 = ad511 := (by injection e511)
                        obtain ⟨ce511, hce511, hMe511, hcc511⟩ := Kd.N_get HO_8.out z26 x14_1 p511 (by first | exact q511 | exact of_decide_eq_true (by first | (with_reducible assumption) | assumption) | (have e_ := (Kd.N_reads' HO_8.out).1; omega))
                        obtain ⟨ua511_1, uc511_1, rfl, ul511_1, ge511_1⟩ := k26_openF hMe511
                        have hv511_1 := hcc511 1 _ rfl
                        rw [add_field _ _ 1 (by omega)] at hv511_1
                        replace hv511_1 := Option.some.inj (hv511_1.symm.trans hx511_1)
                        injection hv511_1 with hva_ hvn_ hvc_
                        rw [hva_] at ge511_1
                        rw [hvc_] at ul511_1
                        have HL511_1 := Aside0.mk (show Kd.V k103 103 _ w.heap.size _ _ ((rd_T26 t487 x14_1).f1) from Kd.V_mk ul511_1 ge511_1)
                        clear hva_ hvn_ hvc_ ge511_1 ul511_1
                        clear hcc511 hce511
                        have HR511_1 := Aside0.mk hi511_1
                        have HC511_1 := Aside0.mk hl511_1
                        clear hi511_1 hl511_1
                        replace p511 := eq_true p511
                        replace q511 := eq_true q511
                        refine start_ (n := 16) (S := fun w' => w'.cell? (ad510.add ((x13_1).toNat * 3)) = some (.int .i64 ((rd_T26 t496 x13_1).f0)) ∧ w'.cell? ⟨(ad510.add ((x13_1).toNat * 3)).block, (ad510.add ((x13_1).toNat * 3)).off + 1, none⟩ = some (.slice A510_1 ((rd_T26 t496 x13_1).f1).length c510_1) ∧ w'.cell? ⟨(ad510.add ((x13_1).toNat * 3)).block, (ad510.add ((x13_1).toNat * 3)).off + 2, none⟩ = some (.string ((rd_T26 t496 x13_1).f2)) ∧ w'.cell? (ad506.add ((x14_1).toNat * 3)) = some (.int .i64 ((rd_T26 t487 x14_1).f0)) ∧ w'.cell? ⟨(ad506.add ((x14_1).toNat * 3)).block, (ad506.add ((x14_1).toNat * 3)).off + 1, none⟩ = some (.slice A511_1 ((rd_T26 t487 x14_1).f1).length c511_1) ∧ w'.cell? ⟨(ad506.add ((x14_1).toNat * 3)).block, (ad506.add ((x14_1).toNat * 3)).off + 2, none⟩ = some (.string ((rd_T26 t487 x14_1).f2))) (ds := []) #[false, false, false, false, false, false, false, false, false, false, false, false, false, false, false, false] (by kernel_rfl) rfl rfl ⟨hx510_0, hx510_1, hx510_2, hx511_0, hx511_1, hx511_2⟩ (fun hHeld => ?_); refine with_tabW archivistlaw16_MergeEnds.tab15 archivistlaw16_MergeEnds.bits15 (fun HT_ HW_ => ?_)
                        generalize w47.drew = w48 at HO_8 HO_10 HO_496001 HO_506001 HL506_1 HL508_1 BK485 BK495 BK505 HR506_1 HR508_1 HB HL510_1 HL511_1 HR510_1 HR511_1 hx510_0 hx510_1 hx510_2 hx511_0 hx511_1 hx511_2 hHeld ⊢
                        refine pure_ (i := 0) (N := some 52) (v := ?_) (a' := ?_) #[true, false, false, false, false, false, false, false, false, false, false, false, false, false, false, false] rfl rfl (any_of HT_.out (by kernel_rfl)) (fun _ _ _ h => h) (Or.inl ⟨by rfl, ?_⟩) ?_ ?_
                        rotate_left
                        · intro w'
                          go_simp
                          with_reducible rfl
                        rotate_left
                        · simp only [Act.put, List.setIfInBounds_toArray, List.set_cons_zero, List.set_cons_succ, i64_w, i32_w]
                          rfl
                        refine pure_ (i := 1) (N := some 53) (v := ?_) (a' := ?_) #[true, true, false, false, false, false, false, false, false, false, false, false, false, false, false, false] rfl rfl (any_of HT_.out (by kernel_rfl)) (fun _ _ _ h => h) (Or.inl ⟨by rfl, ?_⟩) ?_ ?_
                        rotate_left
                        · intro w'
                          go_simp
                          with_reducible rfl
                        rotate_left
                        · simp only [Act.put, List.setIfInBounds_toArray, List.set_cons_zero, List.set_cons_succ, i64_w, i32_w]
                          rfl
                        refine pure_ (i := 2) (N := some 54) (v := ?_) (a' := ?_) #[true, true, true, false, false, false, false, false, false, false, false, false, false, false, false, false] rfl rfl (any_of HT_.out (by kernel_rfl)) (fun _ _ _ h => h) (Or.inl ⟨by rfl, ?_⟩) ?_ ?_
                        rotate_left
                        · intro w'
                          go_simp
                          with_reducible rfl
                        rotate_left
                        · simp only [Act.put, List.setIfInBounds_toArray, List.set_cons_zero, List.set_cons_succ, i64_w, i32_w]
                          rfl
                        refine pure_ (i := 3) (N := some 55) (v := ?_) (a' := ?_) #[true, true, true, true, false, false, false, false, false, false, false, false, false, false, false, false] rfl rfl (any_of HT_.out (by kernel_rfl)) (fun _ _ _ h => h) (Or.inl ⟨by rfl, ?_⟩) ?_ ?_
                        rotate_left
                        · intro w'
                          go_simp
                          with_reducible rfl
                        rotate_left
                        · simp only [Act.put, List.setIfInBounds_toArray, List.set_cons_zero, List.set_cons_succ, i64_w, i32_w]
                          rfl
                        refine pure_ (i := 4) (N := some 56) (v := ?_) (a' := ?_) #[true, true, true, true, true, false, false, false, false, false, false, false, false, false, false, false] rfl rfl (any_of HT_.out (by kernel_rfl)) (fun _ _ _ h => h) (Or.inl ⟨by rfl, ?_⟩) ?_ ?_
                        rotate_left
                        · intro w'
                          go_simp
                          with_reducible rfl
                        rotate_left
                        · simp only [Act.put, List.setIfInBounds_toArray, List.set_cons_zero, List.set_cons_succ, i64_w, i32_w]
                          rfl
                        refine pure_ (i := 5) (N := some 57) (v := ?_) (a' := ?_) #[true, true, true, true, true, true, false, false, false, false, false, false, false, false, false, false] rfl rfl (any_of HT_.out (by kernel_rfl)) (fun _ _ _ h => h) (Or.inl ⟨by rfl, ?_⟩) ?_ ?_
                        rotate_left
                        · intro w'
                          go_simp
                          with_reducible rfl
                        rotate_left
                        · simp only [Act.put, List.setIfInBounds_toArray, List.set_cons_zero, List.set_cons_succ, i64_w, i32_w]
                          rfl
                        refine pure_ (i := 6) (N := some 58) (v := ?_) (a' := ?_) #[true, true, true, true, true, true, true, false, false, false, false, false, false, false, false, false] rfl rfl (any_of HT_.out (by kernel_rfl)) (fun _ _ _ h => h) (Or.inl ⟨by rfl, ?_⟩) ?_ ?_
                        rotate_left
                        · intro w'
                          go_simp
                          with_reducible rfl
                        rotate_left
                        · simp only [Act.put, List.setIfInBounds_toArray, List.set_cons_zero, List.set_cons_succ, i64_w, i32_w]
                          rfl
                        refine pure_ (i := 7) (N := some 59) (v := ?_) (a' := ?_) #[true, true, true, true, true, true, true, true, false, false, false, false, false, false, false, false] rfl rfl (any_of HT_.out (by kernel_rfl)) (fun _ _ _ h => h) (Or.inl ⟨by rfl, ?_⟩) ?_ ?_
                        rotate_left
                        · intro w'
                          go_simp
                          with_reducible rfl
                        rotate_left
                        · simp only [Act.put, List.setIfInBounds_toArray, List.set_cons_zero, List.set_cons_succ, i64_w, i32_w]
                          rfl
                        refine pure_ (i := 9) (N := some 61) (v := ?_) (a' := ?_) #[true, true, true, true, true, true, true, true, false, true, false, false, false, false, false, false] rfl rfl (any_of HT_.out (by kernel_rfl)) (fun _ _ _ h => h) (Or.inl ⟨by rfl, ?_⟩) ?_ ?_
                        rotate_left
                        · intro w'
                          go_simp
                          with_reducible rfl
                        rotate_left
                        · simp only [Act.put, List.setIfInBounds_toArray, List.set_cons_zero, List.set_cons_succ, i64_w, i32_w]
                          rfl
                        refine pure_ (i := 10) (N := some 62) (v := ?_) (a' := ?_) #[true, true, true, true, true, true, true, true, false, true, true, false, false, false, false, false] rfl rfl (any_of HT_.out (by kernel_rfl)) (fun _ _ _ h => h) (Or.inl ⟨by rfl, ?_⟩) ?_ ?_
                        rotate_left
                        · intro w'
                          go_simp
                          with_reducible rfl
                        rotate_left
                        · simp only [Act.put, List.setIfInBounds_toArray, List.set_cons_zero, List.set_cons_succ, i64_w, i32_w]
                          rfl
                        refine pure_ (i := 11) (N := some 63) (v := ?_) (a' := ?_) #[true, true, true, true, true, true, true, true, false, true, true, true, false, false, false, false] rfl rfl (any_of HT_.out (by kernel_rfl)) (fun _ _ _ h => h) (Or.inl ⟨by rfl, ?_⟩) ?_ ?_
                        rotate_left
                        · intro w'
                          go_simp
                          with_reducible rfl
                        rotate_left
                        · simp only [Act.put, List.setIfInBounds_toArray, List.set_cons_zero, List.set_cons_succ, i64_w, i32_w]
                          rfl
                        refine take_ (i := 8) (N := some 60) (v := ?_) (a' := ?_) #[true, true, true, true, true, true, true, true, true, true, true, true, false, false, false, false] rfl rfl (take_ofW HT_.out HW_.out (by kernel_rfl)) (fun _ _ _ h => h) (Or.inl ⟨by rfl, ?_⟩) hHeld ?_ ?_
                        rotate_left
                        · rintro w' ⟨s0, s1, s2, s3, s4, s5⟩
                          go_simp
                          with_reducible rfl
                        rotate_left
                        · simp only [Act.put, List.setIfInBounds_toArray, List.set_cons_zero, List.set_cons_succ, i64_w, i32_w]
                          rfl
                        refine take_ (i := 12) (N := some 64) (v := ?_) (a' := ?_) #[true, true, true, true, true, true, true, true, true, true, true, true, true, false, false, false] rfl rfl (take_ofW HT_.out HW_.out (by kernel_rfl)) (fun _ _ _ h => h) (Or.inl ⟨by rfl, ?_⟩) hHeld ?_ ?_
                        rotate_left
                        · rintro w' ⟨s0, s1, s2, s3, s4, s5⟩
                          go_simp
                          with_reducible rfl
                        rotate_left
                        · simp only [Act.put, List.setIfInBounds_toArray, List.set_cons_zero, List.set_cons_succ, i64_w, i32_w]
                          rfl
                        refine one_ (i := 13) (N := some 65) #[true, true, true, true, true, true, true, true, true, true, true, true, true, true, false, false] rfl rfl (one_of HT_.out (by kernel_rfl)) (by decide) (fun K hK => ?_)
                        refine goes_ Try.func22 (by kernel_rfl) rfl #[.agg #[.int .i64 ((rd_T26 t496 x13_1).f0), .slice A510_1 ((rd_T26 t496 x13_1).f1).length c510_1, .string ((rd_T26 t496 x13_1).f2)], .agg #[.int .i64 ((rd_T26 t487 x14_1).f0), .slice A511_1 ((rd_T26 t487 x14_1).f1).length c511_1, .string ((rd_T26 t487 x14_1).f2)]] (by rfl) rfl rfl (by (try simp only [List.map_toArray, List.map_cons, List.map_nil]); first | done | rfl | (simp only [List.length_drop, List.length_take]; rfl)) ?_
                        with_reducible refine (entry_Same.calls k1 ((rd_T26 t496 x13_1).f0) _ _ ((rd_T26 t496 x13_1).f1) ((rd_T26 t496 x13_1).f2) ((rd_T26 t487 x14_1).f0) _ _ ((rd_T26 t487 x14_1).f1) ((rd_T26 t487 x14_1).f2) true _ ?side1 ?side2 ?side3 ?side4 A42.out).mono ?_
                        (case side1 => repeat (first | exact (by repeat (first | (with_reducible exact HR510_1.out) | (with_reducible refine Kd.C_alloc ?_ _) | (with_reducible refine Kd.C_drewN ?_ _) | (with_reducible refine Kd.C_drew ?_) | exact HR510_1.out)) | (with_reducible refine Kd.C_alloc ?_ _) | (with_reducible refine Kd.C_drewN ?_ _) | (with_reducible refine Kd.C_drew ?_)))
                        (case side2 => exact HC510_1.out)
                        (case side3 => repeat (first | exact (by repeat (first | (with_reducible exact HR511_1.out) | (with_reducible refine Kd.C_alloc ?_ _) | (with_reducible refine Kd.C_drewN ?_ _) | (with_reducible refine Kd.C_drew ?_) | exact HR511_1.out)) | (with_reducible refine Kd.C_alloc ?_ _) | (with_reducible refine Kd.C_drewN ?_ _) | (with_reducible refine Kd.C_drew ?_)))
                        (case side4 => exact HC511_1.out)
                        rintro e w50 ⟨rfl, hb⟩
                        have HS0_ := (hb.cell (World.block_lt_of_cell? _ _ (hHeld.1))).trans (hHeld.1)
                        have HS1_ := (hb.cell (World.block_lt_of_cell? _ _ (hHeld.2.1))).trans (hHeld.2.1)
                        have HS2_ := (hb.cell (World.block_lt_of_cell? _ _ (hHeld.2.2.1))).trans (hHeld.2.2.1)
                        have HS3_ := (hb.cell (World.block_lt_of_cell? _ _ (hHeld.2.2.2.1))).trans (hHeld.2.2.2.1)
                        have HS4_ := (hb.cell (World.block_lt_of_cell? _ _ (hHeld.2.2.2.2.1))).trans (hHeld.2.2.2.2.1)
                        have HS5_ := (hb.cell (World.block_lt_of_cell? _ _ (hHeld.2.2.2.2.2))).trans (hHeld.2.2.2.2.2)
                        refine ⟨_, rfl, ?_⟩
                        have n0_ := Aside0.mk (Kd.N_below (by (with_reducible repeat (first | apply Kd.N_alloc | apply Kd.N_drewN | apply Kd.N_drew)); exact HO_8.out) hb)
                        have n1_ := Aside0.mk (Kd.N_below (by (with_reducible repeat (first | apply Kd.N_alloc | apply Kd.N_drewN | apply Kd.N_drew)); exact HO_10.out) hb)
                        have n2_ := Aside0.mk (Kd.V_below (by (with_reducible repeat (first | apply Kd.V_alloc | apply Kd.V_drewN | apply Kd.V_drew)); exact HO_496001.out) hb)
                        have n3_ := Aside0.mk (Kd.V_below (by (with_reducible repeat (first | apply Kd.V_alloc | apply Kd.V_drewN | apply Kd.V_drew)); exact HO_506001.out) hb)
                        have n4_ := Aside0.mk (Kd.V_below (by (with_reducible repeat (first | apply Kd.V_alloc | apply Kd.V_drewN | apply Kd.V_drew)); exact HL506_1.out) hb)
                        have n5_ := Aside0.mk (Kd.V_below (by (with_reducible repeat (first | apply Kd.V_alloc | apply Kd.V_drewN | apply Kd.V_drew)); exact HL508_1.out) hb)
                        have n6_ := Aside0.mk (Kd.V_below (by (with_reducible repeat (first | apply Kd.V_alloc | apply Kd.V_drewN | apply Kd.V_drew)); exact HL510_1.out) hb)
                        have n7_ := Aside0.mk (Kd.V_below (by (with_reducible repeat (first | apply Kd.V_alloc | apply Kd.V_drewN | apply Kd.V_drew)); exact HL511_1.out) hb)
                        have n8_ := Aside0.mk (blk_below (g := gb485) (o := .cells #[.int .i64 a1_0, .slice A1_1 l1_1.length c1_1, .string a1_2, .bool a1_3, .int .i8 a1_4, .slice A1_5 l1_5.length c1_5, .int .u8 a1_6] 30 (0, 0)) (by (with_reducible repeat (first | refine blk_drewN ?_ _ | refine blk_drew ?_ | refine blk_alloc ?_ _)); exact BK485.out) hb)
                        have n9_ := Aside0.mk (blk_below (g := gb495) (o := .cells #[.int .i64 t490, .slice Ao18 t491.length co18, .string t494] 26 (0, 0)) (by (with_reducible repeat (first | refine blk_drewN ?_ _ | refine blk_drew ?_ | refine blk_alloc ?_ _)); exact BK495.out) hb)
                        have n10_ := Aside0.mk (blk_below (g := gb505) (o := .cells #[.int .i64 t499, .slice Ao28 t500.length co28, .string t503] 26 (0, 0)) (by (with_reducible repeat (first | refine blk_drewN ?_ _ | refine blk_drew ?_ | refine blk_alloc ?_ _)); exact BK505.out) hb)
                        have n11_ := Aside0.mk (Kd.C_below (by repeat (first | (with_reducible exact HR506_1.out) | (with_reducible refine Kd.C_alloc ?_ _) | (with_reducible refine Kd.C_drewN ?_ _) | (with_reducible refine Kd.C_drew ?_) | exact HR506_1.out)) hb)
                        have n12_ := Aside0.mk (Kd.C_below (by repeat (first | (with_reducible exact HR508_1.out) | (with_reducible refine Kd.C_alloc ?_ _) | (with_reducible refine Kd.C_drewN ?_ _) | (with_reducible refine Kd.C_drew ?_) | exact HR508_1.out)) hb)
                        have n13_ := Aside0.mk (Kd.C_below (by repeat (first | (with_reducible exact HR510_1.out) | (with_reducible refine Kd.C_alloc ?_ _) | (with_reducible refine Kd.C_drewN ?_ _) | (with_reducible refine Kd.C_drew ?_) | exact HR510_1.out)) hb)
                        have n14_ := Aside0.mk (Kd.C_below (by repeat (first | (with_reducible exact HR511_1.out) | (with_reducible refine Kd.C_alloc ?_ _) | (with_reducible refine Kd.C_drewN ?_ _) | (with_reducible refine Kd.C_drew ?_) | exact HR511_1.out)) hb)
                        have n15_ := Aside0.mk (below_step (by repeat (first | (with_reducible first | exact HB.out | apply below_alloc | apply pw_below_drewN | apply below_drew1 | refine below_set ?_ GE485.out | refine below_set ?_ GE495.out | refine below_set ?_ GE505.out) | exact HB.out)) hb)
                        clear HO_8
                        clear HO_10
                        clear HO_496001
                        clear HO_506001
                        clear HL506_1
                        clear HL508_1
                        clear HL510_1
                        clear HL511_1
                        clear BK485
                        clear BK495
                        clear BK505
                        clear HR506_1
                        clear HR508_1
                        clear HR510_1
                        clear HR511_1
                        clear HB
                        have HO_8 := n0_
                        have HO_10 := n1_
                        have HO_496001 := n2_
                        have HO_506001 := n3_
                        have HL506_1 := n4_
                        have HL508_1 := n5_
                        have HL510_1 := n6_
                        have HL511_1 := n7_
                        have BK485 := n8_
                        have BK495 := n9_
                        have BK505 := n10_
                        have HR506_1 := n11_
                        have HR508_1 := n12_
                        have HR510_1 := n13_
                        have HR511_1 := n14_
                        have HB := n15_
                        clear n0_ n1_ n2_ n3_ n4_ n5_ n6_ n7_ n8_ n9_ n10_ n11_ n12_ n13_ n14_ n15_
                        (try clear hb)
                        (try clear hb2)
                        (try clear hk)
                        (try clear hi)
                        refine hK.out _ _ ⟨HS0_, HS1_, HS2_, HS3_, HS4_, HS5_⟩ (fun hHeld => ?_)
                        clear hK K
                        refine norm_ (a' := ?_) ?_ ?_
                        rotate_left
                        · show Act.put _ (some 65) _ = _
                          simp only [Act.put, List.setIfInBounds_toArray, List.set_cons_zero, List.set_cons_succ, i64_w, i32_w]
                          rfl
                        refine pure_ (i := 14) (N := some 66) (v := ?_) (a' := ?_) #[true, true, true, true, true, true, true, true, true, true, true, true, true, true, true, false] rfl rfl (any_of HT_.out (by kernel_rfl)) (fun _ _ _ h => h) (Or.inl ⟨by rfl, ?_⟩) ?_ ?_
                        rotate_left
                        · intro w'
                          go_simp
                          with_reducible rfl
                        rotate_left
                        · simp only [Act.put, List.setIfInBounds_toArray, List.set_cons_zero, List.set_cons_succ, i64_w, i32_w]
                          rfl
                        refine pure_ (i := 15) (N := some 67) (v := ?_) (a' := ?_) #[true, true, true, true, true, true, true, true, true, true, true, true, true, true, true, true] rfl rfl (any_of HT_.out (by kernel_rfl)) (fun _ _ _ h => h) (Or.inl ⟨by rfl, ?_⟩) ?_ ?_
                        rotate_left
                        · intro w'
                          go_simp
                          with_reducible rfl
                        rotate_left
                        · simp only [Act.put, List.setIfInBounds_toArray, List.set_cons_zero, List.set_cons_succ, i64_w, i32_w]
                          rfl
                        refine done_ (done_of HT_.out (by kernel_rfl)) ?_
                        try go_wp2
                        go_roundg k1
                        case measure => have := HK1.out; omega
                        case rel => exact ⟨(wrap64 (x13_1 + 1)), (wrap64 (x14_1 + 1)), (by first | rfl | (simp; done) | (simp [*]; done)), (by first | rfl | (simp; done) | (simp [*]; done)), H', ⟨by have := HK1.out; omega⟩, ⟨by (with_reducible repeat (first | apply Kd.N_alloc | apply Kd.N_drewN | apply Kd.N_drew)); exact HO_8.out⟩, ⟨by (with_reducible repeat (first | apply Kd.N_alloc | apply Kd.N_drewN | apply Kd.N_drew)); exact HO_10.out⟩, ⟨by (with_reducible repeat (first | apply Kd.V_alloc | apply Kd.V_drewN | apply Kd.V_drew)); exact HO_496001.out⟩, ⟨by (with_reducible repeat (first | apply Kd.V_alloc | apply Kd.V_drewN | apply Kd.V_drew)); exact HO_506001.out⟩, ⟨by (with_reducible repeat (first | refine blk_drewN ?_ _ | refine blk_drew ?_ | refine blk_alloc ?_ _)); exact BK485.out⟩, ⟨by (with_reducible repeat (first | refine blk_drewN ?_ _ | refine blk_drew ?_ | refine blk_alloc ?_ _)); exact BK495.out⟩, ⟨by (with_reducible repeat (first | refine blk_drewN ?_ _ | refine blk_drew ?_ | refine blk_alloc ?_ _)); exact BK505.out⟩, ⟨by repeat (first | (with_reducible first | exact HB.out | apply below_alloc | apply pw_below_drewN | apply below_drew1 | refine below_set ?_ GE485.out | refine below_set ?_ GE495.out | refine below_set ?_ GE505.out) | exact HB.out)⟩⟩
                      · replace c43 := Bool.eq_false_iff.mpr c43
                        subst c43
                        have H1 : (none) = some r := by rw [if_neg (show ¬ (false = true) by decide)] at H; exact H
                        clear H
                        have H := H1
                        clear H1
                        exact absurd H (by simp)
                    · rw [if_neg c41] at H
                      exact absurd H (by simp)
                  · rw [if_neg c40] at H
                    exact absurd H (by simp)
          · rw [if_neg c30] at H
            exact absurd H (by simp)
        · rw [if_neg c29] at H
          have c29b0 : decide (x14_1 < (t487.length : Int)) = false := decide_eq_false c29
          clear c29
          by_cases c51 : true = true
          · clear c51
            have H1 : (if x13_1 = (t496.length : Int) then (some (t504 == (decide ((t487.length : Int) > 0)))) else (none)) = some r := by first | (rw [if_pos rfl] at H; exact H) | (rw [if_pos trivial] at H; exact H)
            clear H
            have H := H1
            clear H1
            by_cases c52 : x13_1 = (t496.length : Int)
            · rw [if_pos c52] at H
              have c52b0 : (x13_1 == (t496.length : Int)) = true := beq_iff_eq.mpr c52
              have c52b1 : (x13_1 != (t496.length : Int)) = false := bne_eq_false_iff_eq.mpr c52
              clear c52
              obtain rfl := Option.some.inj H
              obtain ⟨Ao53, co53, eo53⟩ := Kd.N_slice HO_10.out
              subst eo53
              go_wp2
              go_ret
              exact ⟨by first | rfl | (simp [errW_none, errW_some] <;> rfl) | (simp [*, errW_none, errW_some] <;> rfl), by repeat (first | (with_reducible first | exact HB.out | apply below_alloc | apply pw_below_drewN | apply below_drew1 | refine below_set ?_ GE485.out | refine below_set ?_ GE495.out | refine below_set ?_ GE505.out) | exact HB.out)⟩
            · rw [if_neg c52] at H
              exact absurd H (by simp)
          · exact absurd rfl c51
  · replace c5 := Bool.eq_false_iff.mpr c5
    subst c5
    have H1 : (none) = some r := by rw [if_neg (show ¬ (false = true) by decide)] at H; exact H
    clear H
    have H := H1
    clear H1
    exact absurd H (by simp)

end Go.Proofs.Ytaehlbbjbeibfaa.X
