-- Laid by xprint.py, a program of this session's, out of the translation.
import Derived.Test.YtaehlbbjbeibfaaX0
import Derived.Test.YtaehlbbjbeibfaaX5
import Derived.Test.YtaehlbbjbeibfaaX6
namespace Go.Proofs.Ytaehlbbjbeibfaa.X
open Go.RowKit Go.Proofs.YtaehlbbjbeibfaaW.PrintWords Go.Proofs.YtaehlbbjbeibfaaW.PrintLast Go.Proofs.YtaehlbbjbeibfaaW.PrintMore
attribute [local go_sem] max2_int min2_int max_two min_two max_three min_three max_four min_four x_isSome x_str_gtr x_str_leq x_str_geq   -- for this text's walks alone
set_option linter.unusedVariables false
set_option linter.unusedSimpArgs false

/-! ### archivistlaw16_refEntries: function 11 -/
def archivistlaw16_refEntries.l0 : Nat → List (S26) → List (S48) → Int → Option ((List (S48)))
 | 0, _, _, _ => none
 | k + 1, x0, x3, x4 => if x4 < (x0.length : Int) then (if 0 ≤ x4 then ((archivistlaw16_refEntry.f k ((rd_T26 x0 x4).f0) ((rd_T26 x0 x4).f1) ((rd_T26 x0 x4).f2)).bind fun bt289 => (if x3.length < 2932031007402 then (archivistlaw16_refEntries.l0 k x0 (x3 ++ [(⟨bt289.1, bt289.2.1, bt289.2.2⟩ : S48)]) (wrap64 (x4 + 1))) else (none))) else (none)) else (some x3)
def archivistlaw16_refEntries.f (k : Nat) (l0 : List (S26)) : Option ((List (S48))) := archivistlaw16_refEntries.l0 k l0 ([] : List (S48)) 0
theorem archivistlaw16_refEntries.mono_l : ∀ k, (∀ y0 y1 y2, LeO (archivistlaw16_refEntries.l0 k y0 y1 y2) (archivistlaw16_refEntries.l0 (k + 1) y0 y1 y2))
 | 0 => fun _ _ _ r h => by simp [archivistlaw16_refEntries.l0] at h
 | k + 1 => by
  have ih0 := archivistlaw16_refEntries.mono_l k
  ·intro y0 y1 y2
   unfold archivistlaw16_refEntries.l0
   exact mo
theorem archivistlaw16_refEntries.mono : ∀ a0 k, LeO (archivistlaw16_refEntries.f k a0) (archivistlaw16_refEntries.f (k + 1) a0) := by
 intro a0 k
 have ih0 := archivistlaw16_refEntries.mono_l k
 unfold archivistlaw16_refEntries.f
 exact mo
set_option maxHeartbeats 8000000 in
set_option maxRecDepth 100000 in
theorem archivistlaw16_refEntries.calls (k : Nat) (A0 : Option Addr) (c0 : Nat) (l0 : List (S26)) (r : List (S48)) (w : World) (hr0 : Kd.C k26 w A0 l0.length l0) (hc0 : l0.length ≤ c0) (h : archivistlaw16_refEntries.f k l0 = some r) :
  Calls Try.prog 11 #[.slice A0 l0.length c0] w fun e w' => ∃ v0_ : Value, e = .returned (v0_) ∧ Kd.S k48 48 w' w.heap.size (fun _ => True) v0_ r ∧ Below w.heap.size w w' := by
 have hu26 := Try.underlying26; have HR0 := Aside0.mk hr0; have HC0 := Aside0.mk hc0; clear hr0 hc0; have HB := Aside0.mk (Below.refl w.heap.size w); have H : (archivistlaw16_refEntries.l0 k l0 ([] : List (S48)) 0) = some r := h; clear h; have H' := Aside0.mk H; clear H; go_enter Try.func11, Try.ntmps11
 go_wp2
 go_loopg [3, 4] k (fun kq v3 v4 w' => ∃ (x3_1 : List (S48)) (x4_1 : Int), v4 = .int .i64 x4_1 ∧ Aside0 (archivistlaw16_refEntries.l0 kq l0 x3_1 x4_1 = some r) ∧ Aside0 (kq ≤ k) ∧ Aside0 (Kd.S k48 48 w' w.heap.size (fun _ => True) v3 x3_1) ∧ Aside0 (Below w.heap.size w w'))
 case atStart => exact ⟨(([] : List (S48))), (0), rs, H', ⟨Nat.le_refl _⟩, ⟨zal⟩, ⟨bl⟩⟩
 case round =>
  clear H'; (try clear c1); obtain ⟨x3_1, x4_1, rfl, HA, HK1, HO_3, HB⟩ := hrel; cases gk with
  | zero => exact absurd HA.out (by simp [archivistlaw16_refEntries.l0])
  | succ k1 =>
   have H := HA.out; clear HA; simp only [archivistlaw16_refEntries.l0] at H; by_cases c2 : x4_1 < (l0.length : Int)
   ·rw [if_pos c2] at H; have c2b0 := decide_eq_true c2; clear c2; obtain ⟨c3, H⟩ := ip H; have c3b0 := decide_eq_true c3; clear c3; obtain ⟨⟨t289, t290, t293⟩, A4, H⟩ := be H; dsimp only at H; obtain ⟨LMc5, H⟩ := iq H; obtain ⟨y294, hy294⟩ : ∃ y_ : List (S48), y_ = (x3_1 ++ [(⟨t289, t290, t293⟩ : S48)]) := ⟨_, rfl⟩; replace H : (archivistlaw16_refEntries.l0 k1 l0 y294 (wrap64 (x4_1 + 1))) = some r := by first | (rw [hy294]; with_reducible exact H) | (have H2_ := (Option.bind_some _ _).symm.trans H; rw [hy294]; with_reducible exact H2_) | (have H2_ := (Option.bind_some _ _).symm.trans H; with_reducible exact H2_) | with_reducible exact H | (rw [hy294]; exact H) | exact H
    have Ny294 := Aside0.mk hy294; clear hy294; have H' := Aside0.mk H; clear H; have p288 : 0 ≤ (x4_1 : Int) := od; have q288 : x4_1 < (l0.length : Int) := od; obtain ⟨ad288, A288_1, c288_1, e288, hx288_0, hx288_1, hx288_2, hl288_1, hi288_1⟩ := at_T26 HR0.out x4_1 p288 q288; cases e288; replace hx288_0 := cu HB.out hx288_0; replace hx288_1 := cu HB.out hx288_1; replace hx288_2 := cu HB.out hx288_2; have HR288_1 := Aside0.mk hi288_1; have HC288_1 := Aside0.mk hl288_1; clear hi288_1 hl288_1; replace p288 := eq_true p288; replace q288 := eq_true q288; go_wp2_with (first | ((with_reducible refine gate_callee (f := 21) rfl ?_); refine goesL_ (some 16) rfl rfl Try.func21 (by kernel_rfl) rfl #[.agg #[.int .i64 ((rd_T26 l0 x4_1).f0), .slice A288_1 ((rd_T26 l0 x4_1).f1).length c288_1, .string ((rd_T26 l0 x4_1).f2)]] rfl ml ?_; (with_reducible refine (archivistlaw16_refEntry.calls k1 ((rd_T26 l0 x4_1).f0) _ _ ((rd_T26 l0 x4_1).f1) ((rd_T26 l0 x4_1).f2) t289 t290 t293 _ ?side1 ?side2 A4.out).mono ?_); (case side1 => repeat (first | exact (Kd.C_below HR288_1.out HB.out) | (with_reducible refine Kd.C_alloc ?_ _) | (with_reducible refine Kd.C_drewN ?_ _) | (with_reducible refine Kd.C_drew ?_))); (case side2 => exact HC288_1.out); rintro e w6 ⟨v291, rfl, ho0, hb⟩; refine ⟨_, rfl, ?_⟩; have HO292 := Aside0.mk (Kd.R_lower ho0 (below_size bl)); replace HO_3 := Aside0.mk (Kd.S_elder' (zz HO_3.out) (Kd.R_base ho0) hb); replace HB := Aside0.mk (below_step bl hb); (try clear hb); (try clear hb2); (try clear hk); (try clear hi); (try clear ho0); obtain ⟨Ao8, co8, eo8⟩ := Kd.R_slice HO292.out; subst eo8) | ((with_reducible refine gate_builtin (b := .append) (xs := #[.tmp 11, .tmp 17]) rfl ?_); at_builtin; refine Kd.S_append k48 (w0 := w) w.heap.size rfl (.tmp 11) (.tmp 17) 38 48 (.agg #[(.int .i64 0), (.slice none 0 0), (.string ⟨#[]⟩)]) 48 rfl Try.underlying38 info48 rfl (by decide) (by omega) u3 x3_1 (⟨t289, t290, t293⟩ : S48) [.int .i64 t289, .slice Ao8 t290.length co8, .string t293] (fun _ => True) (fun k_ => some k_ = (.slice Ao8 t290.length co8 : Value).ownBlock) rfl rfl ?aP (fun k_ hk_ => ((Kd.R_mono (ok' := fun k_ => ((fun _ => True)) k_ ∧ some k_ ≠ (u3 : Value).ownBlock) (Kd.R_apart' (HO292.out) (Kd.S_typed HO_3.out) (by decide)) (fun k_ hk => ⟨trivial, hk.2⟩))).1 k_ hk_.symm) ?aF ?aO ?aB ?aS ?aL ?_; (case aP => exact k48_mkM _ _ _ (⟨t289, t290, t293⟩ : S48) (Kd.R_mono (Kd.R_tight rfl (Kd.R_mono (ok' := fun k_ => ((fun _ => True)) k_ ∧ some k_ ≠ (u3 : Value).ownBlock) (Kd.R_apart' (HO292.out) (Kd.S_typed HO_3.out) (by decide)) (fun k_ hk => ⟨trivial, hk.2⟩))) (fun _ h_ => h_))); (case aB => exact bl); (case aF => exact (fun _ _ => trivial)); (case aO => exact (by (with_reducible repeat (first | apply Kd.S_alloc | apply Kd.S_drewN | apply Kd.S_drew)); exact Kd.S_mono HO_3.out (fun k_ hk => ⟨trivial, fun e_ => hk.2 e_⟩))); (case aS => exact (below_size bl)); (case aL => have := LMc5.out; omega); intro v295 w7 ho hb hg hat; rw [← Ny294.out] at ho; have HO296 := Aside0.mk (ho); replace HB := Aside0.mk (hb); clear HO_3 HO292; clear ho hb hg hat))
    go_roundg k1
    case measure => have := HK1.out; omega
    case rel => exact ⟨(y294), (wrap64 (x4_1 + 1)), rs, H', ⟨zbp⟩, ⟨zz HO296.out⟩, ⟨bl⟩⟩
   ·rw [if_neg c2] at H; have c2b0 : decide (x4_1 < (l0.length : Int)) = false := decide_eq_false c2; clear c2; obtain rfl := Option.some.inj H; go_wp2
    go_ret
    exact ⟨_, zaa, by (with_reducible repeat (first | apply Kd.S_alloc | apply Kd.S_drewN | apply Kd.S_drew)); exact HO_3.out, bl⟩

/-! ### archivistref13_Sorted: function 31 -/
def archivistref13_Sorted.l0 : Nat → Bool → List (S48) → Int → Option (Bool)
 | 0, _, _, _ => none
 | k + 1, x0, x1, x5 => if x5 < (x1.length : Int) then (if 0 ≤ x5 then (if 0 ≤ (wrap64 (x5 - 1)) then (if (wrap64 (x5 - 1)) < (x1.length : Int) then ((archivistref13_Ahead.f k ((rd_T48 x1 x5).f0) ((rd_T48 x1 x5).f1) ((rd_T48 x1 x5).f2) ((rd_T48 x1 (wrap64 (x5 - 1))).f0) ((rd_T48 x1 (wrap64 (x5 - 1))).f1) ((rd_T48 x1 (wrap64 (x5 - 1))).f2) x0).bind fun t299 => (if t299 = true then (some false) else (archivistref13_Sorted.l0 k x0 x1 (wrap64 (x5 + 1))))) else (none)) else (none)) else (none)) else (some true)
def archivistref13_Sorted.f (k : Nat) (a0 : Bool) (l1 : List (S48)) : Option (Bool) := archivistref13_Sorted.l0 k a0 l1 1
theorem archivistref13_Sorted.mono_l : ∀ k, (∀ y0 y1 y2, LeO (archivistref13_Sorted.l0 k y0 y1 y2) (archivistref13_Sorted.l0 (k + 1) y0 y1 y2))
 | 0 => fun _ _ _ r h => by simp [archivistref13_Sorted.l0] at h
 | k + 1 => by
  have ih0 := archivistref13_Sorted.mono_l k
  ·intro y0 y1 y2
   unfold archivistref13_Sorted.l0
   exact mo
theorem archivistref13_Sorted.mono : ∀ a0 a1 k, LeO (archivistref13_Sorted.f k a0 a1) (archivistref13_Sorted.f (k + 1) a0 a1) := by
 intro a0 a1 k
 have ih0 := archivistref13_Sorted.mono_l k
 unfold archivistref13_Sorted.f
 exact mo
def archivistref13_Sorted.T4 : Bool × List (List Nat × List Nat) := (true, [([], []), ([], []), ([0, 1], [0, 1]), ([2], [2]), ([], []), ([], []), ([5], [5]), ([4, 6], [4, 6]), ([7], [7]), ([], []), ([3, 8, 9], [3, 8, 9])])
def archivistref13_Sorted.B4 : List Nat := [0, 0, 3, 7, 0, 0, 32, 112, 240, 0, 1023]
theorem archivistref13_Sorted.tab4 : rtab .any (opsOf Try.f31 4) = archivistref13_Sorted.T4 := by kernel_rfl
theorem archivistref13_Sorted.bits4 : waitsOk archivistref13_Sorted.T4.2 archivistref13_Sorted.B4 = true := by kernel_rfl
set_option maxHeartbeats 8000000 in
set_option maxRecDepth 100000 in
theorem archivistref13_Sorted.calls (k : Nat) (a0 : Bool) (A1 : Option Addr) (c1 : Nat) (l1 : List (S48)) (r : Bool) (w : World) (hr1 : Kd.C k48 w A1 l1.length l1) (hc1 : l1.length ≤ c1) (h : archivistref13_Sorted.f k a0 l1 = some r) :
  Calls Try.prog 31 #[.bool a0, .slice A1 l1.length c1] w fun e w' => e = .returned (.bool r) ∧ Below w.heap.size w w' := by
 have hu48 := Try.underlying48; have HR1 := Aside0.mk hr1; have HC1 := Aside0.mk hc1; clear hr1 hc1; have HB := Aside0.mk (Below.refl w.heap.size w); have H : (archivistref13_Sorted.l0 k a0 l1 1) = some r := h; clear h; have H' := Aside0.mk H; clear H; go_enter Try.func31, Try.ntmps31
 go_wp2
 go_loopg [5] k (fun kq v5 w' => ∃ (x5_1 : Int), v5 = .int .i64 x5_1 ∧ Aside0 (archivistref13_Sorted.l0 kq a0 l1 x5_1 = some r) ∧ Aside0 (kq ≤ k) ∧ Aside0 (Below w.heap.size w w'))
 case atStart => exact ⟨(1), rs, H', ⟨Nat.le_refl _⟩, ⟨bl⟩⟩
 case round =>
  clear H'; (try clear c1); (try clear p2); obtain ⟨x5_1, rfl, HA, HK1, HB⟩ := hrel; cases gk with
  | zero => exact absurd HA.out (by simp [archivistref13_Sorted.l0])
  | succ k1 =>
   have H := HA.out; clear HA; simp only [archivistref13_Sorted.l0] at H; by_cases c3 : x5_1 < (l1.length : Int)
   ·rw [if_pos c3] at H; have c3b0 := decide_eq_true c3; clear c3; obtain ⟨c4, H⟩ := ip H; have c4b0 := decide_eq_true c4; clear c4; obtain ⟨ji5, hji5⟩ : ∃ j_ : Int, (wrap64 (x5_1 - 1)) = j_ := ⟨_, rfl⟩; replace H : (if 0 ≤ (ji5) then (if (ji5) < (l1.length : Int) then ((archivistref13_Ahead.f k1 ((rd_T48 l1 x5_1).f0) ((rd_T48 l1 x5_1).f1) ((rd_T48 l1 x5_1).f2) ((rd_T48 l1 (ji5)).f0) ((rd_T48 l1 (ji5)).f1) ((rd_T48 l1 (ji5)).f2) a0).bind fun t299 => (if t299 = true then (some false) else (archivistref13_Sorted.l0 k1 a0 l1 (wrap64 (x5_1 + 1))))) else (none)) else (none)) = some r := by first | (rw [hji5] at H; exact H) | (simp only [hji5] at H ⊢; exact H)
    have hji5w : (IntKind.i64.wrap (x5_1 - 1)) = ji5 := (i64_w _).trans hji5; obtain ⟨c6, H⟩ := ip H; have c6b0 := decide_eq_true c6; clear c6; obtain ⟨c7, H⟩ := ip H; have c7b0 := decide_eq_true c7; clear c7; obtain ⟨t299, A8, H⟩ := be H; by_cases c9 : t299 = true
    ·subst c9; rw [if_pos rfl] at H; obtain rfl := Option.some.inj H; (try go_wp2); replace HB := Aside0.mk (below_drew1 HB.out); have p297 : 0 ≤ (x5_1 : Int) := od; have q297 : x5_1 < (l1.length : Int) := od; obtain ⟨ad297, A297_1, c297_1, e297, hx297_0, hx297_1, hx297_2, hl297_1, hi297_1⟩ := at_T48 HR1.out x5_1 p297 q297; have hw297_2 := hx297_2; have hw297_1 := hx297_1; have hw297_0 := hx297_0; cases e297; replace hx297_0 := cu HB.out hx297_0; replace hx297_1 := cu HB.out hx297_1; replace hx297_2 := cu HB.out hx297_2; have HR297_1 := Aside0.mk hi297_1; have HC297_1 := Aside0.mk hl297_1; clear hi297_1 hl297_1; replace p297 := eq_true p297; replace q297 := eq_true q297; have p298 : 0 ≤ ((ji5) : Int) := od; have q298 : (ji5) < (l1.length : Int) := od; obtain ⟨ad298, A298_1, c298_1, e298, hx298_0, hx298_1, hx298_2, hl298_1, hi298_1⟩ := at_T48 HR1.out (ji5) p298 q298; have hw298_2 := hx298_2; have hw298_1 := hx298_1; have hw298_0 := hx298_0; obtain rfl : ad297 = ad298 := (by injection e298); replace hx298_0 := cu HB.out hx298_0; replace hx298_1 := cu HB.out hx298_1; replace hx298_2 := cu HB.out hx298_2; have HR298_1 := Aside0.mk hi298_1; have HC298_1 := Aside0.mk hl298_1; clear hi298_1 hl298_1; replace p298 := eq_true p298; replace q298 := eq_true q298; refine start_ (n := 11) (S := fun w' => w'.cell? (ad297.add ((x5_1).toNat * 3)) = some (.int .i64 ((rd_T48 l1 x5_1).f0)) ∧ w'.cell? ⟨(ad297.add ((x5_1).toNat * 3)).block, (ad297.add ((x5_1).toNat * 3)).off + 1, none⟩ = some (.slice A297_1 ((rd_T48 l1 x5_1).f1).length c297_1) ∧ w'.cell? ⟨(ad297.add ((x5_1).toNat * 3)).block, (ad297.add ((x5_1).toNat * 3)).off + 2, none⟩ = some (.string ((rd_T48 l1 x5_1).f2)) ∧ w'.cell? (ad297.add (((ji5)).toNat * 3)) = some (.int .i64 ((rd_T48 l1 (ji5)).f0)) ∧ w'.cell? ⟨(ad297.add (((ji5)).toNat * 3)).block, (ad297.add (((ji5)).toNat * 3)).off + 1, none⟩ = some (.slice A298_1 ((rd_T48 l1 (ji5)).f1).length c298_1) ∧ w'.cell? ⟨(ad297.add (((ji5)).toNat * 3)).block, (ad297.add (((ji5)).toNat * 3)).off + 2, none⟩ = some (.string ((rd_T48 l1 (ji5)).f2))) (ds := []) #[N_,N_,N_,N_,N_,N_,N_,N_,N_,N_,N_] (by kernel_rfl) rfl rfl ⟨(cu HB.out hw297_0 :), (cu HB.out hw297_1 :), (cu HB.out hw297_2 :), (cu HB.out hw298_0 :), (cu HB.out hw298_1 :), (cu HB.out hw298_2 :)⟩ (fun hHeld => ?_); refine with_tabW archivistref13_Sorted.tab4 archivistref13_Sorted.bits4 (fun HT_ HW_ => ?_); generalize wr.drew = w10 at HB HR297_1 HR298_1 hx297_0 hx297_1 hx297_2 hx298_0 hx298_1 hx298_2 hHeld ⊢; refine qY 0 12 HT_.out ?_; refine qY 1 13 HT_.out ?_; refine qY 2 14 HT_.out ?_; refine qY 4 16 HT_.out ?_; refine qY 5 17 HT_.out ?_; refine qY 6 18 HT_.out ?_; refine qY 7 19 HT_.out ?_; refine qY 9 21 HT_.out ?_; refine tY 3 15 HT_.out HW_.out hHeld ?_; refine tY 8 20 HT_.out HW_.out hHeld ?_; refine one_ (i := 10) (N := some 22) #[J_,J_,J_,J_,J_,J_,J_,J_,J_,J_,J_] rfl rfl (one_of HT_.out (by kernel_rfl)) (by decide) (fun K hK => ?_); refine goes_ Try.func24 (by kernel_rfl) rfl #[.agg #[.int .i64 ((rd_T48 l1 x5_1).f0), .slice A297_1 ((rd_T48 l1 x5_1).f1).length c297_1, .string ((rd_T48 l1 x5_1).f2)], .agg #[.int .i64 ((rd_T48 l1 (ji5)).f0), .slice A298_1 ((rd_T48 l1 (ji5)).f1).length c298_1, .string ((rd_T48 l1 (ji5)).f2)], .bool a0] (by rfl) rfl rfl zcj ?_; with_reducible refine (archivistref13_Ahead.calls k1 ((rd_T48 l1 x5_1).f0) _ _ ((rd_T48 l1 x5_1).f1) ((rd_T48 l1 x5_1).f2) ((rd_T48 l1 (ji5)).f0) _ _ ((rd_T48 l1 (ji5)).f1) ((rd_T48 l1 (ji5)).f2) a0 true _ ?side1 ?side2 ?side3 ?side4 A8.out).mono ?_
     (case side1 => repeat (first | exact (Kd.C_below HR297_1.out HB.out) | (with_reducible refine Kd.C_alloc ?_ _) | (with_reducible refine Kd.C_drewN ?_ _) | (with_reducible refine Kd.C_drew ?_)))
     (case side2 => exact HC297_1.out)
     (case side3 => repeat (first | exact (Kd.C_below HR298_1.out HB.out) | (with_reducible refine Kd.C_alloc ?_ _) | (with_reducible refine Kd.C_drewN ?_ _) | (with_reducible refine Kd.C_drew ?_)))
     (case side4 => exact HC298_1.out); rintro e w11 ⟨rfl, hb⟩; refine ⟨_, rfl, ?_⟩; replace HB := Aside0.mk (below_step bl hb)
     (try clear hb)
     (try clear hb2)
     (try clear hk)
     (try clear hi); refine hK.out _ _ ⟨(cu HB.out hw297_0 :), (cu HB.out hw297_1 :), (cu HB.out hw297_2 :), (cu HB.out hw298_0 :), (cu HB.out hw298_1 :), (cu HB.out hw298_2 :)⟩ (fun hHeld => ?_); clear hK K; refine norm_ (a' := ?_) ?_ ?_; rotate_left
     ·show Act.put _ (some 22) _ = _; simp only [Act.put, List.setIfInBounds_toArray, List.set_cons_zero, List.set_cons_succ, i64_w, i32_w]; rfl
     refine done_ (done_of HT_.out (by kernel_rfl)) ?_; (try go_wp2); go_ret
     exact ⟨by first | rfl | (simp [errW_none, errW_some] <;> rfl) | (simp only [← hji5]; first | rfl | (simp [errW_none, errW_some] <;> rfl)) | (simp [*, errW_none, errW_some] <;> rfl), bl⟩
    ·replace c9 := Bool.eq_false_iff.mpr c9; subst c9; rw [if_neg nf] at H; have H' := Aside0.mk H; clear H; (try go_wp2); replace HB := Aside0.mk (below_drew1 HB.out); have p297 : 0 ≤ (x5_1 : Int) := od; have q297 : x5_1 < (l1.length : Int) := od; obtain ⟨ad297, A297_1, c297_1, e297, hx297_0, hx297_1, hx297_2, hl297_1, hi297_1⟩ := at_T48 HR1.out x5_1 p297 q297; have hw297_2 := hx297_2; have hw297_1 := hx297_1; have hw297_0 := hx297_0; cases e297; replace hx297_0 := cu HB.out hx297_0; replace hx297_1 := cu HB.out hx297_1; replace hx297_2 := cu HB.out hx297_2; have HR297_1 := Aside0.mk hi297_1; have HC297_1 := Aside0.mk hl297_1; clear hi297_1 hl297_1; replace p297 := eq_true p297; replace q297 := eq_true q297; have p298 : 0 ≤ ((ji5) : Int) := od; have q298 : (ji5) < (l1.length : Int) := od; obtain ⟨ad298, A298_1, c298_1, e298, hx298_0, hx298_1, hx298_2, hl298_1, hi298_1⟩ := at_T48 HR1.out (ji5) p298 q298; have hw298_2 := hx298_2; have hw298_1 := hx298_1; have hw298_0 := hx298_0; obtain rfl : ad297 = ad298 := (by injection e298); replace hx298_0 := cu HB.out hx298_0; replace hx298_1 := cu HB.out hx298_1; replace hx298_2 := cu HB.out hx298_2; have HR298_1 := Aside0.mk hi298_1; have HC298_1 := Aside0.mk hl298_1; clear hi298_1 hl298_1; replace p298 := eq_true p298; replace q298 := eq_true q298; refine start_ (n := 11) (S := fun w' => w'.cell? (ad297.add ((x5_1).toNat * 3)) = some (.int .i64 ((rd_T48 l1 x5_1).f0)) ∧ w'.cell? ⟨(ad297.add ((x5_1).toNat * 3)).block, (ad297.add ((x5_1).toNat * 3)).off + 1, none⟩ = some (.slice A297_1 ((rd_T48 l1 x5_1).f1).length c297_1) ∧ w'.cell? ⟨(ad297.add ((x5_1).toNat * 3)).block, (ad297.add ((x5_1).toNat * 3)).off + 2, none⟩ = some (.string ((rd_T48 l1 x5_1).f2)) ∧ w'.cell? (ad297.add (((ji5)).toNat * 3)) = some (.int .i64 ((rd_T48 l1 (ji5)).f0)) ∧ w'.cell? ⟨(ad297.add (((ji5)).toNat * 3)).block, (ad297.add (((ji5)).toNat * 3)).off + 1, none⟩ = some (.slice A298_1 ((rd_T48 l1 (ji5)).f1).length c298_1) ∧ w'.cell? ⟨(ad297.add (((ji5)).toNat * 3)).block, (ad297.add (((ji5)).toNat * 3)).off + 2, none⟩ = some (.string ((rd_T48 l1 (ji5)).f2))) (ds := []) #[N_,N_,N_,N_,N_,N_,N_,N_,N_,N_,N_] (by kernel_rfl) rfl rfl ⟨(cu HB.out hw297_0 :), (cu HB.out hw297_1 :), (cu HB.out hw297_2 :), (cu HB.out hw298_0 :), (cu HB.out hw298_1 :), (cu HB.out hw298_2 :)⟩ (fun hHeld => ?_); refine with_tabW archivistref13_Sorted.tab4 archivistref13_Sorted.bits4 (fun HT_ HW_ => ?_); generalize wr.drew = w12 at HB HR297_1 HR298_1 hx297_0 hx297_1 hx297_2 hx298_0 hx298_1 hx298_2 hHeld ⊢; refine qY 0 12 HT_.out ?_; refine qY 1 13 HT_.out ?_; refine qY 2 14 HT_.out ?_; refine qY 4 16 HT_.out ?_; refine qY 5 17 HT_.out ?_; refine qY 6 18 HT_.out ?_; refine qY 7 19 HT_.out ?_; refine qY 9 21 HT_.out ?_; refine tY 3 15 HT_.out HW_.out hHeld ?_; refine tY 8 20 HT_.out HW_.out hHeld ?_; refine one_ (i := 10) (N := some 22) #[J_,J_,J_,J_,J_,J_,J_,J_,J_,J_,J_] rfl rfl (one_of HT_.out (by kernel_rfl)) (by decide) (fun K hK => ?_); refine goes_ Try.func24 (by kernel_rfl) rfl #[.agg #[.int .i64 ((rd_T48 l1 x5_1).f0), .slice A297_1 ((rd_T48 l1 x5_1).f1).length c297_1, .string ((rd_T48 l1 x5_1).f2)], .agg #[.int .i64 ((rd_T48 l1 (ji5)).f0), .slice A298_1 ((rd_T48 l1 (ji5)).f1).length c298_1, .string ((rd_T48 l1 (ji5)).f2)], .bool a0] (by rfl) rfl rfl zcj ?_; with_reducible refine (archivistref13_Ahead.calls k1 ((rd_T48 l1 x5_1).f0) _ _ ((rd_T48 l1 x5_1).f1) ((rd_T48 l1 x5_1).f2) ((rd_T48 l1 (ji5)).f0) _ _ ((rd_T48 l1 (ji5)).f1) ((rd_T48 l1 (ji5)).f2) a0 false _ ?side1 ?side2 ?side3 ?side4 A8.out).mono ?_
     (case side1 => repeat (first | exact (Kd.C_below HR297_1.out HB.out) | (with_reducible refine Kd.C_alloc ?_ _) | (with_reducible refine Kd.C_drewN ?_ _) | (with_reducible refine Kd.C_drew ?_)))
     (case side2 => exact HC297_1.out)
     (case side3 => repeat (first | exact (Kd.C_below HR298_1.out HB.out) | (with_reducible refine Kd.C_alloc ?_ _) | (with_reducible refine Kd.C_drewN ?_ _) | (with_reducible refine Kd.C_drew ?_)))
     (case side4 => exact HC298_1.out); rintro e w13 ⟨rfl, hb⟩; refine ⟨_, rfl, ?_⟩; replace HB := Aside0.mk (below_step bl hb)
     (try clear hb)
     (try clear hb2)
     (try clear hk)
     (try clear hi); refine hK.out _ _ ⟨(cu HB.out hw297_0 :), (cu HB.out hw297_1 :), (cu HB.out hw297_2 :), (cu HB.out hw298_0 :), (cu HB.out hw298_1 :), (cu HB.out hw298_2 :)⟩ (fun hHeld => ?_); clear hK K; refine norm_ (a' := ?_) ?_ ?_; rotate_left
     ·show Act.put _ (some 22) _ = _; simp only [Act.put, List.setIfInBounds_toArray, List.set_cons_zero, List.set_cons_succ, i64_w, i32_w]; rfl
     refine done_ (done_of HT_.out (by kernel_rfl)) ?_; (try go_wp2); go_roundg k1
     case measure => have := HK1.out; omega
     case rel => exact ⟨(wrap64 (x5_1 + 1)), rs, H', ⟨zbp⟩, ⟨bl⟩⟩
   ·rw [if_neg c3] at H; have c3b0 : decide (x5_1 < (l1.length : Int)) = false := decide_eq_false c3; clear c3; obtain rfl := Option.some.inj H; go_wp2
    go_ret
    exact ⟨zaa, bl⟩

end Go.Proofs.Ytaehlbbjbeibfaa.X
