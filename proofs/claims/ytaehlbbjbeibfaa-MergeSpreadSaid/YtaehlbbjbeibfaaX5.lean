-- Laid by xprint.py, a program of this session's, out of the translation.
import Derived.Test.YtaehlbbjbeibfaaX0
namespace Go.Proofs.Ytaehlbbjbeibfaa.X
open Go.RowKit Go.Proofs.YtaehlbbjbeibfaaW.PrintWords Go.Proofs.YtaehlbbjbeibfaaW.PrintLast Go.Proofs.YtaehlbbjbeibfaaW.PrintMore
attribute [local go_sem] max2_int min2_int max_two min_two max_three min_three max_four min_four x_isSome x_str_gtr x_str_leq x_str_geq   -- for this text's walks alone
set_option linter.unusedVariables false
set_option linter.unusedSimpArgs false

/-! ### archivistlaw16_refPairs: function 37 -/
def archivistlaw16_refPairs.l0 : Nat → List (S103) → List (S108) → Int → Option ((List (S108)))
 | 0, _, _, _ => none
 | k + 1, x0, x3, x4 => if x4 < (x0.length : Int) then (if 0 ≤ x4 then (if x3.length < 4398046511104 then (archivistlaw16_refPairs.l0 k x0 (x3 ++ [(⟨(rd_T103 x0 x4).f0, (rd_T103 x0 x4).f1⟩ : S108)]) (wrap64 (x4 + 1))) else (none)) else (none)) else (some x3)
def archivistlaw16_refPairs.f (k : Nat) (l0 : List (S103)) : Option ((List (S108))) := archivistlaw16_refPairs.l0 k l0 ([] : List (S108)) 0
theorem archivistlaw16_refPairs.mono_l : ∀ k, (∀ y0 y1 y2, LeO (archivistlaw16_refPairs.l0 k y0 y1 y2) (archivistlaw16_refPairs.l0 (k + 1) y0 y1 y2))
 | 0 => fun _ _ _ r h => by simp [archivistlaw16_refPairs.l0] at h
 | k + 1 => by
  have ih0 := archivistlaw16_refPairs.mono_l k
  ·intro y0 y1 y2
   unfold archivistlaw16_refPairs.l0
   exact mo
theorem archivistlaw16_refPairs.mono : ∀ a0 k, LeO (archivistlaw16_refPairs.f k a0) (archivistlaw16_refPairs.f (k + 1) a0) := by
 intro a0 k
 have ih0 := archivistlaw16_refPairs.mono_l k
 unfold archivistlaw16_refPairs.f
 exact mo
def archivistlaw16_refPairs.T5 : Bool × List (List Nat × List Nat) := (true, [([], []), ([], []), ([], []), ([1, 2], [1, 2]), ([3], [3]), ([4], [4]), ([], []), ([], []), ([6, 7], [6, 7]), ([8], [8]), ([9], [9]), ([5, 10], [5, 10]), ([11], [11]), ([0, 12], [0, 12]), ([13, 13, 0, 1, 2, 3, 4, 5, 6, 7, 8, 9, 10, 11, 12, 13], [0, 13])])
def archivistlaw16_refPairs.B5 : List Nat := [0, 0, 0, 6, 14, 30, 0, 0, 192, 448, 960, 2046, 4094, 8191, 16383]
theorem archivistlaw16_refPairs.tab5 : rtab .any (opsOf Try.f37 5) = archivistlaw16_refPairs.T5 := by kernel_rfl
theorem archivistlaw16_refPairs.bits5 : waitsOk archivistlaw16_refPairs.T5.2 archivistlaw16_refPairs.B5 = true := by kernel_rfl
set_option maxHeartbeats 8000000 in
set_option maxRecDepth 100000 in
theorem archivistlaw16_refPairs.calls (k : Nat) (A0 : Option Addr) (c0 : Nat) (l0 : List (S103)) (r : List (S108)) (w : World) (hr0 : Kd.C k103 w A0 l0.length l0) (hc0 : l0.length ≤ c0) (h : archivistlaw16_refPairs.f k l0 = some r) :
  Calls Try.prog 37 #[.slice A0 l0.length c0] w fun e w' => ∃ v0_ : Value, e = .returned (v0_) ∧ Kd.R k108 108 w' w.heap.size (fun _ => True) v0_ r ∧ Below w.heap.size w w' := by
 have hu108 := Try.underlying108; have HR0 := Aside0.mk hr0; have HC0 := Aside0.mk hc0; clear hr0 hc0; have HB := Aside0.mk (Below.refl w.heap.size w); have H : (archivistlaw16_refPairs.l0 k l0 ([] : List (S108)) 0) = some r := h; clear h; have H' := Aside0.mk H; clear H; go_enter Try.func37, Try.ntmps37
 go_wp2
 go_loopg [3, 4] k (fun kq v3 v4 w' => ∃ (x3_1 : List (S108)) (x4_1 : Int), v4 = .int .i64 x4_1 ∧ Aside0 (archivistlaw16_refPairs.l0 kq l0 x3_1 x4_1 = some r) ∧ Aside0 (kq ≤ k) ∧ Aside0 (Kd.R k108 108 w' w.heap.size (fun _ => True) v3 x3_1) ∧ Aside0 (Below w.heap.size w w'))
 case atStart => exact ⟨(([] : List (S108))), (0), rs, H', ⟨Nat.le_refl _⟩, ⟨zbk⟩, ⟨bl⟩⟩
 case round =>
  clear H'; obtain ⟨x3_1, x4_1, rfl, HA, HK1, HO_3, HB⟩ := hrel; cases gk with
  | zero => exact absurd HA.out (by simp [archivistlaw16_refPairs.l0])
  | succ k1 =>
   have H := HA.out; clear HA; simp only [archivistlaw16_refPairs.l0] at H; by_cases c2 : x4_1 < (l0.length : Int)
   ·rw [if_pos c2] at H; have c2b0 := decide_eq_true c2; clear c2; obtain ⟨c3, H⟩ := ip H; have c3b0 := decide_eq_true c3; clear c3; obtain ⟨LMc4, H⟩ := iq H; obtain ⟨y146, hy146⟩ : ∃ y_ : List (S108), y_ = (x3_1 ++ [(⟨(rd_T103 l0 x4_1).f0, (rd_T103 l0 x4_1).f1⟩ : S108)]) := ⟨_, rfl⟩; replace H : (archivistlaw16_refPairs.l0 k1 l0 y146 (wrap64 (x4_1 + 1))) = some r := by first | (rw [hy146]; with_reducible exact H) | (have H2_ := (Option.bind_some _ _).symm.trans H; rw [hy146]; with_reducible exact H2_) | (have H2_ := (Option.bind_some _ _).symm.trans H; with_reducible exact H2_) | with_reducible exact H | (rw [hy146]; exact H) | exact H
    have Ny146 := Aside0.mk hy146; clear hy146; have H' := Aside0.mk H; clear H; (try go_wp2); replace HO_3 := Aside0.mk (Kd.R_drew HO_3.out); replace HB := Aside0.mk (below_drew1 HB.out); have p144 : 0 ≤ (x4_1 : Int) := od; have q144 : x4_1 < (l0.length : Int) := od; obtain ⟨ad144, e144, hx144_0, hx144_1⟩ := at_T103 HR0.out x4_1 p144 q144; have hw144_1 := hx144_1; have hw144_0 := hx144_0; cases e144; replace hx144_0 := cu HB.out hx144_0; replace hx144_1 := cu HB.out hx144_1; replace p144 := eq_true p144; replace q144 := eq_true q144; have p145 : 0 ≤ (x4_1 : Int) := od; have q145 : x4_1 < (l0.length : Int) := od; obtain ⟨ad145, e145, hx145_0, hx145_1⟩ := at_T103 HR0.out x4_1 p145 q145; have hw145_1 := hx145_1; have hw145_0 := hx145_0; obtain rfl : ad144 = ad145 := (by injection e145); replace hx145_0 := cu HB.out hx145_0; replace hx145_1 := cu HB.out hx145_1; replace p145 := eq_true p145; replace q145 := eq_true q145; refine start_ (n := 15) (S := fun w' => w'.cell? (ad144.add ((x4_1).toNat * 2)) = some (.string ((rd_T103 l0 x4_1).f0)) ∧ w'.cell? ⟨(ad144.add ((x4_1).toNat * 2)).block, (ad144.add ((x4_1).toNat * 2)).off + 1, none⟩ = some (.string ((rd_T103 l0 x4_1).f1)) ∧ w'.cell? (ad144.add ((x4_1).toNat * 2)) = some (.string ((rd_T103 l0 x4_1).f0)) ∧ w'.cell? ⟨(ad144.add ((x4_1).toNat * 2)).block, (ad144.add ((x4_1).toNat * 2)).off + 1, none⟩ = some (.string ((rd_T103 l0 x4_1).f1))) (ds := []) #[N_,N_,N_,N_,N_,N_,N_,N_,N_,N_,N_,N_,N_,N_,N_] (by kernel_rfl) rfl rfl ⟨(cu HB.out hw144_0 :), (cu HB.out hw144_1 :), (cu HB.out hw145_0 :), (cu HB.out hw145_1 :)⟩ (fun hHeld => ?_); refine with_tabW archivistlaw16_refPairs.tab5 archivistlaw16_refPairs.bits5 (fun HT_ HW_ => ?_); generalize wr.drew = w5 at HO_3 HB hx144_0 hx144_1 hx145_0 hx145_1 hHeld ⊢; refine qY 0 11 HT_.out ?_; refine qY 1 12 HT_.out ?_; refine qY 2 13 HT_.out ?_; refine qY 3 14 HT_.out ?_; refine qY 4 15 HT_.out ?_; refine qY 6 17 HT_.out ?_; refine qY 7 18 HT_.out ?_; refine qY 8 19 HT_.out ?_; refine qY 9 20 HT_.out ?_; refine tY 5 16 HT_.out HW_.out hHeld ?_; refine tY 10 21 HT_.out HW_.out hHeld ?_; refine qY 11 22 HT_.out ?_; refine one_ (i := 12) (N := some 23) #[J_,J_,J_,J_,J_,J_,J_,J_,J_,J_,J_,J_,J_,N_,N_] rfl rfl (one_of HT_.out (by kernel_rfl)) (by decide) (fun K hK => ?_); refine value_ (w1 := ?_) (v := ?_) (by rfl) rfl ?_ ?_; rotate_left 2
    ·go_simp
     constructor
     ·rfl
     ·rfl
    refine hK.out _ _ ⟨(World.cell?_alloc_lt _ _ _ (World.block_lt_of_cell? _ _ ((cu HB.out hw144_0 :)))).trans ((cu HB.out hw144_0 :)), (World.cell?_alloc_lt _ _ _ (World.block_lt_of_cell? _ _ ((cu HB.out hw144_1 :)))).trans ((cu HB.out hw144_1 :)), (World.cell?_alloc_lt _ _ _ (World.block_lt_of_cell? _ _ ((cu HB.out hw145_0 :)))).trans ((cu HB.out hw145_0 :)), (World.cell?_alloc_lt _ _ _ (World.block_lt_of_cell? _ _ ((cu HB.out hw145_1 :)))).trans ((cu HB.out hw145_1 :))⟩ (fun hHeld => ?_); clear hK K; refine norm_ (a' := ?_) ?_ ?_; rotate_left
    ·show Act.put _ (some 23) _ = _; simp only [Act.put, List.setIfInBounds_toArray, List.set_cons_zero, List.set_cons_succ, i64_w, i32_w]; rfl
    refine one_ (i := 13) (N := some 24) #[J_,J_,J_,J_,J_,J_,J_,J_,J_,J_,J_,J_,J_,J_,N_] rfl rfl (one_of HT_.out (by kernel_rfl)) (by decide) (fun K hK => ?_); refine Kd.R_append_step k108 (w0 := w) w.heap.size (by rfl) (.tmp 11) (.tmp 23) 46 108 (.agg #[(.string ⟨#[]⟩), (.string ⟨#[]⟩)]) 32 rfl Try.underlying46 info108 rfl (by decide) (by omega) u3 x3_1 (⟨(rd_T103 l0 x4_1).f0, (rd_T103 l0 x4_1).f1⟩ : S108) [.string ((rd_T103 l0 x4_1).f0), .string ((rd_T103 l0 x4_1).f1)] (fun _ => True) (fun _ => False) rfl rfl ?aP (fun _ hk => hk.elim) ?aF ?aO ?aB ?aS ?aL ?_
    (case aP => exact k108_mkM _ _ _ (⟨(rd_T103 l0 x4_1).f0, (rd_T103 l0 x4_1).f1⟩ : S108))
    (case aB => exact bl)
    (case aF => exact (fun _ _ => trivial))
    (case aO => exact (rz HO_3.out))
    (case aS => exact (below_size bl))
    (case aL => have := LMc4.out; omega); intro v147 w6 ho hb hg hat; rw [← Ny146.out] at ho; have HO148 := Aside0.mk (ho); replace HB := Aside0.mk (hb); clear HO_3; clear ho hb hg hat; refine hK.out _ _ ⟨(cu HB.out hw144_0 :), (cu HB.out hw144_1 :), (cu HB.out hw145_0 :), (cu HB.out hw145_1 :)⟩ (fun hHeld => ?_); clear hK K; refine norm_ (a' := ?_) ?_ ?_; rotate_left
    ·show Act.put _ (some 24) _ = _; simp only [Act.put, List.setIfInBounds_toArray, List.set_cons_zero, List.set_cons_succ, i64_w, i32_w]; rfl
    refine qY 14 3 HT_.out ?_; refine done_ (done_of HT_.out (by kernel_rfl)) ?_; (try go_wp2); go_roundg k1
    case measure => have := HK1.out; omega
    case rel => exact ⟨(y146), (wrap64 (x4_1 + 1)), rs, H', ⟨zbp⟩, ⟨rz HO148.out⟩, ⟨bl⟩⟩
   ·rw [if_neg c2] at H; have c2b0 : decide (x4_1 < (l0.length : Int)) = false := decide_eq_false c2; clear c2; obtain rfl := Option.some.inj H; go_wp2
    go_ret
    exact ⟨_, zaa, by (with_reducible repeat (first | apply Kd.R_alloc | apply Kd.R_drewN | apply Kd.R_drew)); exact HO_3.out, bl⟩

/-! ### archivistlaw16_refEntry: function 21 -/
def archivistlaw16_refEntry.f (k : Nat) (a0_0 : Int) (l0_1 : List (S103)) (a0_2 : ByteArray) : Option (Int × (List (S108)) × ByteArray) := (archivistlaw16_refPairs.f k l0_1).bind fun t151 => (some (a0_0, t151, a0_2))
theorem archivistlaw16_refEntry.mono : ∀ a0 a1 a2 k, LeO (archivistlaw16_refEntry.f k a0 a1 a2) (archivistlaw16_refEntry.f (k + 1) a0 a1 a2) := by
 intro a0 a1 a2 k
 unfold archivistlaw16_refEntry.f
 exact mo
def archivistlaw16_refEntry.T1 : Bool × List (List Nat × List Nat) := (true, [([], []), ([0], [0]), ([], []), ([2], [2]), ([3], [3]), ([], []), ([5], [5]), ([1, 4, 6], [1, 4, 6]), ([7, 4, 0, 1, 2, 3, 4, 5, 6, 7], [7])])
def archivistlaw16_refEntry.B1 : List Nat := [0, 1, 0, 4, 12, 0, 32, 127, 255]
theorem archivistlaw16_refEntry.tab1 : rtab .any (opsOf Try.f21 1) = archivistlaw16_refEntry.T1 := by kernel_rfl
theorem archivistlaw16_refEntry.bits1 : waitsOk archivistlaw16_refEntry.T1.2 archivistlaw16_refEntry.B1 = true := by kernel_rfl
set_option maxHeartbeats 8000000 in
set_option maxRecDepth 100000 in
theorem archivistlaw16_refEntry.calls (k : Nat) (a0_0 : Int) (A0_1 : Option Addr) (c0_1 : Nat) (l0_1 : List (S103)) (a0_2 : ByteArray) (r1 : Int) (r2 : List (S108)) (r3 : ByteArray) (w : World) (hr0_1 : Kd.C k103 w A0_1 l0_1.length l0_1) (hc0_1 : l0_1.length ≤ c0_1) (h : archivistlaw16_refEntry.f k a0_0 l0_1 a0_2 = some (r1, r2, r3)) :
  Calls Try.prog 21 #[.agg #[.int .i64 a0_0, .slice A0_1 l0_1.length c0_1, .string a0_2]] w fun e w' => ∃ v1_ : Value, e = .returned (.agg #[.int .i64 r1, v1_, .string r3]) ∧ Kd.R k108 108 w' w.heap.size (fun _ => True) v1_ r2 ∧ Below w.heap.size w w' := by
 have hu26 := Try.underlying26; have hu48 := Try.underlying48; have HR0_1 := Aside0.mk hr0_1; have HC0_1 := Aside0.mk hc0_1; clear hr0_1 hc0_1; have HB := Aside0.mk (Below.refl w.heap.size w); have H : ((archivistlaw16_refPairs.f k l0_1).bind fun t151 => (some (a0_0, t151, a0_2))) = some (r1, r2, r3) := h; clear h; obtain ⟨t151, A2, H⟩ := be H; simp only [Option.some.injEq, Prod.mk.injEq] at H; obtain ⟨rfl, rfl, rfl⟩ := H; go_enter Try.func21, Try.ntmps21
 (try go_wp2_with (first | ((with_reducible refine gate_dst (N := 1) rfl ?_); refine box_event ?hg (N := 1) ?hd (cs := #[.int .i64 a0_0, .slice A0_1 l0_1.length c0_1, .string a0_2]) (t := 26) ?hr ?_; (case hd => rfl); (case hg => rfl); (case hr => first | (go_simp; done) | (go_simp; rfl)); intro gb149 hg w3 hbox hb; have BK149 := Aside0.mk (hbox); have GW149 := Aside0.mk ((zad : w.heap.size ≤ gb149)); have GE149 := Aside0.mk ((zad : w.heap.size ≤ gb149)); replace HB := Aside0.mk (below_step bl hb); clear hb hbox hg) | ((with_reducible refine gate_dst (N := 2) rfl ?_); refine box_event ?hg (N := 2) ?hd (cs := #[.int .i64 0, .slice none 0 0, .string (⟨#[]⟩ : ByteArray)]) (t := 48) ?hr ?_; (case hd => rfl); (case hg => rfl); (case hr => first | (go_simp; done) | (go_simp; rfl)); intro gb150 hg w4 hbox hb; have BK150 := Aside0.mk (hbox); have GW150 := Aside0.mk ((zak : w.heap.size ≤ gb150)); have GE150 := Aside0.mk ((zak : w.heap.size ≤ gb150)); have NB149_150 := Aside0.mk ((by rw [hg]; exact Nat.ne_of_lt (blk_lt (g := gb149) (o := .cells #[.int .i64 a0_0, .slice A0_1 l0_1.length c0_1, .string a0_2] 26 (0, 0)) (bz BK149.out)) : gb149 ≠ gb150)); have NB150_149 := Aside0.mk ((by rw [hg]; exact Nat.ne_of_gt (blk_lt (g := gb149) (o := .cells #[.int .i64 a0_0, .slice A0_1 l0_1.length c0_1, .string a0_2] 26 (0, 0)) (bz BK149.out)) : gb150 ≠ gb149)); replace BK149 := Aside0.mk (blk_below (g := gb149) (o := .cells #[.int .i64 a0_0, .slice A0_1 l0_1.length c0_1, .string a0_2] 26 (0, 0)) (bz BK149.out) hb); replace HB := Aside0.mk (below_step bs hb); clear hb hbox hg))); replace BK149 := Aside0.mk (blk_drew BK149.out); replace BK150 := Aside0.mk (blk_drew BK150.out); replace HB := Aside0.mk (below_drew1 HB.out); refine start_ (n := 9) (S := fun w' => w'.cell? ⟨gb149, 0, none⟩ = some (.int .i64 a0_0) ∧ w'.cell? ⟨gb149, 1, none⟩ = some (.slice A0_1 l0_1.length c0_1) ∧ w'.cell? ⟨gb149, 2, none⟩ = some (.string a0_2)) (ds := []) #[N_,N_,N_,N_,N_,N_,N_,N_,N_] (by kernel_rfl) rfl rfl ⟨(blk_cell BK149.out 0).trans rfl, (blk_cell BK149.out 1).trans rfl, (blk_cell BK149.out 2).trans rfl⟩ (fun hHeld => ?_); refine with_tabW archivistlaw16_refEntry.tab1 archivistlaw16_refEntry.bits1 (fun HT_ HW_ => ?_); generalize w4.drew = w5 at BK149 BK150 HB hHeld ⊢; refine qY 0 3 HT_.out ?_; refine qY 2 5 HT_.out ?_; refine qY 5 8 HT_.out ?_; refine tY 1 4 HT_.out HW_.out hHeld ?_; refine tY 3 6 HT_.out HW_.out hHeld ?_; refine tY 6 9 HT_.out HW_.out hHeld ?_; refine one_ (i := 4) (N := some 7) #[J_,J_,J_,J_,J_,J_,J_,N_,N_] rfl rfl (one_of HT_.out (by kernel_rfl)) (by decide) (fun K hK => ?_); refine goes_ Try.func37 (by kernel_rfl) rfl #[.slice A0_1 l0_1.length c0_1] (by rfl) rfl rfl ml ?_; with_reducible refine (archivistlaw16_refPairs.calls k _ _ l0_1 t151 _ ?side1 ?side2 A2.out).mono ?_
 (case side1 => repeat (first | exact (Kd.C_below HR0_1.out HB.out) | (with_reducible refine Kd.C_alloc ?_ _) | (with_reducible refine Kd.C_drewN ?_ _) | (with_reducible refine Kd.C_drew ?_)))
 (case side2 => exact HC0_1.out); rintro e w6 ⟨v152, rfl, ho0, hb⟩; refine ⟨_, rfl, ?_⟩; have HO153 := Aside0.mk (Kd.R_lower ho0 (below_size bs)); replace BK149 := Aside0.mk (blk_below (g := gb149) (o := .cells #[.int .i64 a0_0, .slice A0_1 l0_1.length c0_1, .string a0_2] 26 (0, 0)) (bz BK149.out) hb); replace BK150 := Aside0.mk (blk_below (g := gb150) (o := .cells #[.int .i64 0, .slice none 0 0, .string (⟨#[]⟩ : ByteArray)] 48 (0, 0)) (bz BK150.out) hb); replace HB := Aside0.mk (below_step bs hb)
 (try clear hb)
 (try clear hb2)
 (try clear hk)
 (try clear hi)
 (try clear ho0); obtain ⟨Ao7, co7, eo7⟩ := Kd.R_slice HO153.out
 (first | subst eo7 | (injection eo7 with f1_ f2_ f3_; have f4_ := f1_.symm; have f5_ := f3_.symm; clear f1_ f2_ f3_; subst f4_; subst f5_)); refine hK.out _ _ ⟨(blk_cell BK149.out 0).trans rfl, (blk_cell BK149.out 1).trans rfl, (blk_cell BK149.out 2).trans rfl⟩ (fun hHeld => ?_); clear hK K; refine norm_ (a' := ?_) ?_ ?_; rotate_left
 ·show Act.put _ (some 7) _ = _; simp only [Act.put, List.setIfInBounds_toArray, List.set_cons_zero, List.set_cons_succ, i64_w, i32_w]; rfl
 refine qY 7 10 HT_.out ?_; refine one_ (i := 8) (N := none) #[J_,J_,J_,J_,J_,J_,J_,J_,J_] rfl rfl (one_of HT_.out (by kernel_rfl)) (by decide) (fun K hK => ?_); have hs8 : w6.cell? ⟨gb150, 0, none⟩ = some (.int .i64 0) := (blk_cell BK150.out 0).trans rfl; have hfs8 := blk_frozen BK150.out 0; have hns8_0 := NB149_150.out; have hms8_0 := NB150_149.out; have hs9 : w6.cell? ⟨gb150, 1, none⟩ = some (.slice none 0 0) := (blk_cell BK150.out 1).trans rfl; have hfs9 := blk_frozen BK150.out 1; have hns9_0 := NB149_150.out; have hms9_0 := NB150_149.out; have hs10 : w6.cell? ⟨gb150, 2, none⟩ = some (.string (⟨#[]⟩ : ByteArray)) := (blk_cell BK150.out 2).trans rfl; have hfs10 := blk_frozen BK150.out 2; have hns10_0 := NB149_150.out; have hms10_0 := NB150_149.out; refine skip_ (w1 := ?_) (by rfl) rfl ?_ ?_; rotate_left
 ·go_simp
  rfl
 refine hK.out _ _ ⟨((cell_far (p := ⟨gb150, _, none⟩) NB149_150.out _).trans (((cell_far (p := ⟨gb150, _, none⟩) NB149_150.out _).trans (((cell_far (p := ⟨gb150, _, none⟩) NB149_150.out _).trans (hHeld.1)))))), ((cell_far (p := ⟨gb150, _, none⟩) NB149_150.out _).trans (((cell_far (p := ⟨gb150, _, none⟩) NB149_150.out _).trans (((cell_far (p := ⟨gb150, _, none⟩) NB149_150.out _).trans (hHeld.2.1)))))), ((cell_far (p := ⟨gb150, _, none⟩) NB149_150.out _).trans (((cell_far (p := ⟨gb150, _, none⟩) NB149_150.out _).trans (((cell_far (p := ⟨gb150, _, none⟩) NB149_150.out _).trans (hHeld.2.2))))))⟩ (fun hHeld => ?_); clear hK K; refine done_ (done_of HT_.out (by kernel_rfl)) ?_; (try go_wp2); refine bodyPost_ret (results_cell_row rfl _ _ gb150 48 #[.int .i64 a0_0, .slice Ao7 t151.length co7, .string a0_2] (0, 0) _ rfl (by (with_reducible repeat (first | refine blk_drewN ?_ _ | refine blk_drew ?_ | refine blk_alloc ?_ _)); refine blk_put (cs := #[.int .i64 a0_0, .slice Ao7 t151.length co7, .string (⟨#[]⟩ : ByteArray)]) ?_ 2 _ rfl; (with_reducible repeat (first | refine blk_drewN ?_ _ | refine blk_drew ?_ | refine blk_alloc ?_ _)); refine blk_put (cs := #[.int .i64 a0_0, .slice none 0 0, .string (⟨#[]⟩ : ByteArray)]) ?_ 1 _ rfl; (with_reducible repeat (first | refine blk_drewN ?_ _ | refine blk_drew ?_ | refine blk_alloc ?_ _)); refine blk_put (cs := #[.int .i64 0, .slice none 0 0, .string (⟨#[]⟩ : ByteArray)]) ?_ 0 _ rfl; (with_reducible repeat (first | refine blk_drewN ?_ _ | refine blk_drew ?_ | refine blk_alloc ?_ _)); exact BK150.out) Try.underlying48 rfl (by kernel_rfl)) rfl ?_; exact ⟨_, zaa, by (with_reducible repeat (first | apply Kd.R_alloc | apply Kd.R_drewN | apply Kd.R_drew)); exact Kd.R_mono (Kd.R_far (p := ⟨gb150, 2, none⟩) (Kd.R_far (p := ⟨gb150, 1, none⟩) (Kd.R_far (p := ⟨gb150, 0, none⟩) (Kd.R_types HO153.out BK150.out (by decide)) (fun _ hk => hk.2) (.int .i64 a0_0)) (fun _ hk => hk.2) (.slice Ao7 t151.length co7)) (fun _ hk => hk.2) (.string a0_2)) (fun _ hk => trivial), bs⟩

/-! ### archivistref06_less: function 54 -/
def archivistref06_less.f (a0 : ByteArray) (a1 : ByteArray) : Option (Int) := if (Op.bytesLess a0.toList a1.toList) = true then (some (-1)) else (if (Op.bytesLess a1.toList a0.toList) = true then (some 1) else (some 0))
theorem archivistref06_less.lf {p_ : Prop} (h : p_ := by
 go_enter Try.func54, Try.ntmps54
 go_wp2
 go_ret
 exact ⟨rs, dr⟩) : p_ := h
set_option maxHeartbeats 8000000 in
set_option maxRecDepth 100000 in
theorem archivistref06_less.calls (a0 : ByteArray) (a1 : ByteArray) (r : Int) (w : World) (h : archivistref06_less.f a0 a1 = some r) :
  Calls Try.prog 54 #[.string a0, .string a1] w fun e w' => e = .returned (.int .i64 r) ∧ Drawn0 w w' := by
 have H : (if (Op.bytesLess a0.toList a1.toList) = true then (some (-1)) else (if (Op.bytesLess a1.toList a0.toList) = true then (some 1) else (some 0))) = some r := h
 clear h
 by_cases c3 : (Op.bytesLess a0.toList a1.toList) = true
 ·rw [if_pos c3] at H
  have c3b0 := c3
  have c3e1 : (a0.toList == a1.toList) = false := beq_eq_false_iff_ne.2 (x_less_ne c3b0)
  have c3e2 : (a1.toList == a0.toList) = false := beq_eq_false_iff_ne.2 (Ne.symm (x_less_ne c3b0))
  have c3e3 : Op.bytesLess a1.toList a0.toList = false := x_less_asym c3b0
  clear c3
  obtain rfl := Option.some.inj H
  exact archivistref06_less.lf
 ·rw [if_neg c3] at H
  have c3b0 : (Op.bytesLess a0.toList a1.toList) = false := by simpa using c3
  clear c3
  by_cases c4 : (Op.bytesLess a1.toList a0.toList) = true
  ·rw [if_pos c4] at H
   have c4b0 := c4
   have c4e1 : (a1.toList == a0.toList) = false := beq_eq_false_iff_ne.2 (x_less_ne c4b0)
   have c4e2 : (a0.toList == a1.toList) = false := beq_eq_false_iff_ne.2 (Ne.symm (x_less_ne c4b0))
   have c4e3 : Op.bytesLess a0.toList a1.toList = false := x_less_asym c4b0
   clear c4
   obtain rfl := Option.some.inj H
   exact archivistref06_less.lf
  ·rw [if_neg c4] at H
   have c4b0 : (Op.bytesLess a1.toList a0.toList) = false := by simpa using c4
   (try (have c4e1 : (a1.toList == a0.toList) = true := beq_iff_eq.2 (x_less_tri c4b0 c3b0)))
   (try (have c4e2 : (a0.toList == a1.toList) = true := beq_iff_eq.2 (x_less_tri c3b0 c4b0)))
   clear c4
   obtain rfl := Option.some.inj H
   exact archivistref06_less.lf

end Go.Proofs.Ytaehlbbjbeibfaa.X
