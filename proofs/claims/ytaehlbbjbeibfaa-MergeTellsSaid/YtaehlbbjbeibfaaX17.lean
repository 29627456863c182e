-- Laid by xprint.py, a program of this session's, out of the translation.
import Derived.Test.YtaehlbbjbeibfaaX0
import Derived.Test.YtaehlbbjbeibfaaX16
namespace Go.Proofs.Ytaehlbbjbeibfaa.X
open Go.RowKit Go.Proofs.YtaehlbbjbeibfaaW.PrintWords Go.Proofs.YtaehlbbjbeibfaaW.PrintLast Go.Proofs.YtaehlbbjbeibfaaW.PrintMore
attribute [local go_sem] max2_int min2_int max_two min_two max_three min_three max_four min_four x_isSome x_str_gtr x_str_leq x_str_geq   -- for this text's walks alone
set_option linter.unusedVariables false
set_option linter.unusedSimpArgs false

/-! ### archivistlaw16_sameEntries: function 17 -/
def archivistlaw16_sameEntries.l0 : Nat → List (S26) → List (S48) → Int → Option (Bool)
 | 0, _, _, _ => none
 | k + 1, x0, x1, x5 => if x5 < (x0.length : Int) then (if 0 ≤ x5 then (if x5 < (x1.length : Int) then ((archivistlaw16_sameEntry.f k ((rd_T26 x0 x5).f0) ((rd_T26 x0 x5).f1) ((rd_T26 x0 x5).f2) ((rd_T48 x1 x5).f0) ((rd_T48 x1 x5).f1) ((rd_T48 x1 x5).f2)).bind fun t364 => (if t364 = true then (archivistlaw16_sameEntries.l0 k x0 x1 (wrap64 (x5 + 1))) else (some false))) else (none)) else (none)) else (some true)
def archivistlaw16_sameEntries.f (k : Nat) (l0 : List (S26)) (l1 : List (S48)) : Option (Bool) := if (l0.length : Int) = (l1.length : Int) then (archivistlaw16_sameEntries.l0 k l0 l1 0) else (some false)
theorem archivistlaw16_sameEntries.mono_l : ∀ k, (∀ y0 y1 y2, LeO (archivistlaw16_sameEntries.l0 k y0 y1 y2) (archivistlaw16_sameEntries.l0 (k + 1) y0 y1 y2))
 | 0 => fun _ _ _ r h => by simp [archivistlaw16_sameEntries.l0] at h
 | k + 1 => by
  have ih0 := archivistlaw16_sameEntries.mono_l k
  ·intro y0 y1 y2
   unfold archivistlaw16_sameEntries.l0
   exact mo
theorem archivistlaw16_sameEntries.mono : ∀ a0 a1 k, LeO (archivistlaw16_sameEntries.f k a0 a1) (archivistlaw16_sameEntries.f (k + 1) a0 a1) := by
 intro a0 a1 k
 have ih0 := archivistlaw16_sameEntries.mono_l k
 unfold archivistlaw16_sameEntries.f
 exact mo
def archivistlaw16_sameEntries.T6 : Bool × List (List Nat × List Nat) := (true, [([], []), ([], []), ([0, 1], [0, 1]), ([2], [2]), ([], []), ([], []), ([4, 5], [4, 5]), ([6], [6]), ([3, 7], [3, 7]), ([8, 8, 0, 1, 2, 3, 4, 5, 6, 7, 8], [8])])
def archivistlaw16_sameEntries.B6 : List Nat := [0, 0, 3, 7, 0, 0, 48, 112, 255, 511]
theorem archivistlaw16_sameEntries.tab6 : rtab .any (opsOf Try.f17 6) = archivistlaw16_sameEntries.T6 := by kernel_rfl
theorem archivistlaw16_sameEntries.bits6 : waitsOk archivistlaw16_sameEntries.T6.2 archivistlaw16_sameEntries.B6 = true := by kernel_rfl
set_option maxHeartbeats 8000000 in
set_option maxRecDepth 100000 in
theorem archivistlaw16_sameEntries.calls (k : Nat) (A0 : Option Addr) (c0 : Nat) (l0 : List (S26)) (A1 : Option Addr) (c1 : Nat) (l1 : List (S48)) (r : Bool) (w : World) (hr0 : Kd.C k26 w A0 l0.length l0) (hc0 : l0.length ≤ c0) (hr1 : Kd.C k48 w A1 l1.length l1) (hc1 : l1.length ≤ c1) (h : archivistlaw16_sameEntries.f k l0 l1 = some r) :
  Calls Try.prog 17 #[.slice A0 l0.length c0, .slice A1 l1.length c1] w fun e w' => e = .returned (.bool r) ∧ Below w.heap.size w w' := by
 have hu26 := Try.underlying26; have hu48 := Try.underlying48; have HR0 := Aside0.mk hr0; have HC0 := Aside0.mk hc0; clear hr0 hc0; have HR1 := Aside0.mk hr1; have HC1 := Aside0.mk hc1; clear hr1 hc1; have HB := Aside0.mk (Below.refl w.heap.size w); have H : (if (l0.length : Int) = (l1.length : Int) then (archivistlaw16_sameEntries.l0 k l0 l1 0) else (some false)) = some r := h; clear h; by_cases c3 : (l0.length : Int) = (l1.length : Int)
 ·rw [if_pos c3] at H; have c3b0 : ((l0.length : Int) == (l1.length : Int)) = true := beq_iff_eq.mpr c3; have c3b1 : ((l0.length : Int) != (l1.length : Int)) = false := bne_eq_false_iff_eq.mpr c3; have c3b2 : (l0.length == l1.length) = true := by first | simpa using c3 | (simp at c3 ⊢; omega)
  clear c3; have H' := Aside0.mk H; clear H; go_enter Try.func17, Try.ntmps17
  go_wp2
  go_loopg [5] k (fun kq v5 w' => ∃ (x5_1 : Int), v5 = .int .i64 x5_1 ∧ Aside0 (archivistlaw16_sameEntries.l0 kq l0 l1 x5_1 = some r) ∧ Aside0 (kq ≤ k) ∧ Aside0 (Below w.heap.size w w'))
  case atStart => exact ⟨(0), rs, H', ⟨Nat.le_refl _⟩, ⟨bl⟩⟩
  case round =>
   clear H'; (try clear c1); (try clear p2); (try clear c3); (try clear c3b0); (try clear c3b1); (try clear c3b2); obtain ⟨x5_1, rfl, HA, HK1, HB⟩ := hrel; cases gk with
   | zero => exact absurd HA.out (by simp [archivistlaw16_sameEntries.l0])
   | succ k1 =>
    have H := HA.out; clear HA; simp only [archivistlaw16_sameEntries.l0] at H; by_cases c4 : x5_1 < (l0.length : Int)
    ·rw [if_pos c4] at H; have c4b0 := decide_eq_true c4; clear c4; obtain ⟨c5, H⟩ := ip H; have c5b0 := decide_eq_true c5; clear c5; obtain ⟨c6, H⟩ := ip H; have c6b0 := decide_eq_true c6; clear c6; obtain ⟨t364, A7, H⟩ := be H; by_cases c8 : t364 = true
     ·subst c8; rw [if_pos rfl] at H; have H' := Aside0.mk H; clear H; (try go_wp2); replace HB := Aside0.mk (below_drew1 HB.out); have p362 : 0 ≤ (x5_1 : Int) := od; have q362 : x5_1 < (l0.length : Int) := od; obtain ⟨ad362, A362_1, c362_1, e362, hx362_0, hx362_1, hx362_2, hl362_1, hi362_1⟩ := at_T26 HR0.out x5_1 p362 q362; have hw362_2 := hx362_2; have hw362_1 := hx362_1; have hw362_0 := hx362_0; cases e362; replace hx362_0 := cu HB.out hx362_0; replace hx362_1 := cu HB.out hx362_1; replace hx362_2 := cu HB.out hx362_2; have HR362_1 := Aside0.mk hi362_1; have HC362_1 := Aside0.mk hl362_1; clear hi362_1 hl362_1; replace p362 := eq_true p362; replace q362 := eq_true q362; have p363 : 0 ≤ (x5_1 : Int) := od; have q363 : x5_1 < (l1.length : Int) := od; obtain ⟨ad363, A363_1, c363_1, e363, hx363_0, hx363_1, hx363_2, hl363_1, hi363_1⟩ := at_T48 HR1.out x5_1 p363 q363; have hw363_2 := hx363_2; have hw363_1 := hx363_1; have hw363_0 := hx363_0; cases e363; replace hx363_0 := cu HB.out hx363_0; replace hx363_1 := cu HB.out hx363_1; replace hx363_2 := cu HB.out hx363_2; have HR363_1 := Aside0.mk hi363_1; have HC363_1 := Aside0.mk hl363_1; clear hi363_1 hl363_1; replace p363 := eq_true p363; replace q363 := eq_true q363; refine start_ (n := 10) (S := fun w' => w'.cell? (ad362.add ((x5_1).toNat * 3)) = some (.int .i64 ((rd_T26 l0 x5_1).f0)) ∧ w'.cell? ⟨(ad362.add ((x5_1).toNat * 3)).block, (ad362.add ((x5_1).toNat * 3)).off + 1, none⟩ = some (.slice A362_1 ((rd_T26 l0 x5_1).f1).length c362_1) ∧ w'.cell? ⟨(ad362.add ((x5_1).toNat * 3)).block, (ad362.add ((x5_1).toNat * 3)).off + 2, none⟩ = some (.string ((rd_T26 l0 x5_1).f2)) ∧ w'.cell? (ad363.add ((x5_1).toNat * 3)) = some (.int .i64 ((rd_T48 l1 x5_1).f0)) ∧ w'.cell? ⟨(ad363.add ((x5_1).toNat * 3)).block, (ad363.add ((x5_1).toNat * 3)).off + 1, none⟩ = some (.slice A363_1 ((rd_T48 l1 x5_1).f1).length c363_1) ∧ w'.cell? ⟨(ad363.add ((x5_1).toNat * 3)).block, (ad363.add ((x5_1).toNat * 3)).off + 2, none⟩ = some (.string ((rd_T48 l1 x5_1).f2))) (ds := []) #[N_,N_,N_,N_,N_,N_,N_,N_,N_,N_] (by kernel_rfl) rfl rfl ⟨(cu HB.out hw362_0 :), (cu HB.out hw362_1 :), (cu HB.out hw362_2 :), (cu HB.out hw363_0 :), (cu HB.out hw363_1 :), (cu HB.out hw363_2 :)⟩ (fun hHeld => ?_); refine with_tabW archivistlaw16_sameEntries.tab6 archivistlaw16_sameEntries.bits6 (fun HT_ HW_ => ?_); generalize wr.drew = w9 at HB HR362_1 HR363_1 hx362_0 hx362_1 hx362_2 hx363_0 hx363_1 hx363_2 hHeld ⊢; refine qY 0 18 HT_.out ?_; refine qY 1 19 HT_.out ?_; refine qY 2 20 HT_.out ?_; refine qY 4 22 HT_.out ?_; refine qY 5 23 HT_.out ?_; refine qY 6 24 HT_.out ?_; refine tY 3 21 HT_.out HW_.out hHeld ?_; refine tY 7 25 HT_.out HW_.out hHeld ?_; refine one_ (i := 8) (N := some 26) #[J_,J_,J_,J_,J_,J_,J_,J_,J_,N_] rfl rfl (one_of HT_.out (by kernel_rfl)) (by decide) (fun K hK => ?_); refine goes_ Try.func18 (by kernel_rfl) rfl #[.agg #[.int .i64 ((rd_T26 l0 x5_1).f0), .slice A362_1 ((rd_T26 l0 x5_1).f1).length c362_1, .string ((rd_T26 l0 x5_1).f2)], .agg #[.int .i64 ((rd_T48 l1 x5_1).f0), .slice A363_1 ((rd_T48 l1 x5_1).f1).length c363_1, .string ((rd_T48 l1 x5_1).f2)]] (by rfl) rfl rfl ml ?_; with_reducible refine (archivistlaw16_sameEntry.calls k1 ((rd_T26 l0 x5_1).f0) _ _ ((rd_T26 l0 x5_1).f1) ((rd_T26 l0 x5_1).f2) ((rd_T48 l1 x5_1).f0) _ _ ((rd_T48 l1 x5_1).f1) ((rd_T48 l1 x5_1).f2) true _ ?side1 ?side2 ?side3 ?side4 A7.out).mono ?_
      (case side1 => repeat (first | exact (Kd.C_below HR362_1.out HB.out) | (with_reducible refine Kd.C_alloc ?_ _) | (with_reducible refine Kd.C_drewN ?_ _) | (with_reducible refine Kd.C_drew ?_)))
      (case side2 => exact HC362_1.out)
      (case side3 => repeat (first | exact (Kd.C_below HR363_1.out HB.out) | (with_reducible refine Kd.C_alloc ?_ _) | (with_reducible refine Kd.C_drewN ?_ _) | (with_reducible refine Kd.C_drew ?_)))
      (case side4 => exact HC363_1.out); rintro e w10 ⟨rfl, hb⟩; refine ⟨_, rfl, ?_⟩; replace HB := Aside0.mk (below_step bl hb)
      (try clear hb)
      (try clear hb2)
      (try clear hk)
      (try clear hi); refine hK.out _ _ ⟨(cu HB.out hw362_0 :), (cu HB.out hw362_1 :), (cu HB.out hw362_2 :), (cu HB.out hw363_0 :), (cu HB.out hw363_1 :), (cu HB.out hw363_2 :)⟩ (fun hHeld => ?_); clear hK K; refine norm_ (a' := ?_) ?_ ?_; rotate_left
      ·show Act.put _ (some 26) _ = _; simp only [Act.put, List.setIfInBounds_toArray, List.set_cons_zero, List.set_cons_succ, i64_w, i32_w]; rfl
      refine qY 9 6 HT_.out ?_; refine done_ (done_of HT_.out (by kernel_rfl)) ?_; (try go_wp2); go_roundg k1
      case measure => have := HK1.out; omega
      case rel => exact ⟨(wrap64 (x5_1 + 1)), rs, H', ⟨zbp⟩, ⟨bl⟩⟩
     ·replace c8 := Bool.eq_false_iff.mpr c8; subst c8; rw [if_neg nf] at H; obtain rfl := Option.some.inj H; (try go_wp2); replace HB := Aside0.mk (below_drew1 HB.out); have p362 : 0 ≤ (x5_1 : Int) := od; have q362 : x5_1 < (l0.length : Int) := od; obtain ⟨ad362, A362_1, c362_1, e362, hx362_0, hx362_1, hx362_2, hl362_1, hi362_1⟩ := at_T26 HR0.out x5_1 p362 q362; have hw362_2 := hx362_2; have hw362_1 := hx362_1; have hw362_0 := hx362_0; cases e362; replace hx362_0 := cu HB.out hx362_0; replace hx362_1 := cu HB.out hx362_1; replace hx362_2 := cu HB.out hx362_2; have HR362_1 := Aside0.mk hi362_1; have HC362_1 := Aside0.mk hl362_1; clear hi362_1 hl362_1; replace p362 := eq_true p362; replace q362 := eq_true q362; have p363 : 0 ≤ (x5_1 : Int) := od; have q363 : x5_1 < (l1.length : Int) := od; obtain ⟨ad363, A363_1, c363_1, e363, hx363_0, hx363_1, hx363_2, hl363_1, hi363_1⟩ := at_T48 HR1.out x5_1 p363 q363; have hw363_2 := hx363_2; have hw363_1 := hx363_1; have hw363_0 := hx363_0; cases e363; replace hx363_0 := cu HB.out hx363_0; replace hx363_1 := cu HB.out hx363_1; replace hx363_2 := cu HB.out hx363_2; have HR363_1 := Aside0.mk hi363_1; have HC363_1 := Aside0.mk hl363_1; clear hi363_1 hl363_1; replace p363 := eq_true p363; replace q363 := eq_true q363; refine start_ (n := 10) (S := fun w' => w'.cell? (ad362.add ((x5_1).toNat * 3)) = some (.int .i64 ((rd_T26 l0 x5_1).f0)) ∧ w'.cell? ⟨(ad362.add ((x5_1).toNat * 3)).block, (ad362.add ((x5_1).toNat * 3)).off + 1, none⟩ = some (.slice A362_1 ((rd_T26 l0 x5_1).f1).length c362_1) ∧ w'.cell? ⟨(ad362.add ((x5_1).toNat * 3)).block, (ad362.add ((x5_1).toNat * 3)).off + 2, none⟩ = some (.string ((rd_T26 l0 x5_1).f2)) ∧ w'.cell? (ad363.add ((x5_1).toNat * 3)) = some (.int .i64 ((rd_T48 l1 x5_1).f0)) ∧ w'.cell? ⟨(ad363.add ((x5_1).toNat * 3)).block, (ad363.add ((x5_1).toNat * 3)).off + 1, none⟩ = some (.slice A363_1 ((rd_T48 l1 x5_1).f1).length c363_1) ∧ w'.cell? ⟨(ad363.add ((x5_1).toNat * 3)).block, (ad363.add ((x5_1).toNat * 3)).off + 2, none⟩ = some (.string ((rd_T48 l1 x5_1).f2))) (ds := []) #[N_,N_,N_,N_,N_,N_,N_,N_,N_,N_] (by kernel_rfl) rfl rfl ⟨(cu HB.out hw362_0 :), (cu HB.out hw362_1 :), (cu HB.out hw362_2 :), (cu HB.out hw363_0 :), (cu HB.out hw363_1 :), (cu HB.out hw363_2 :)⟩ (fun hHeld => ?_); refine with_tabW archivistlaw16_sameEntries.tab6 archivistlaw16_sameEntries.bits6 (fun HT_ HW_ => ?_); generalize wr.drew = w11 at HB HR362_1 HR363_1 hx362_0 hx362_1 hx362_2 hx363_0 hx363_1 hx363_2 hHeld ⊢; refine qY 0 18 HT_.out ?_; refine qY 1 19 HT_.out ?_; refine qY 2 20 HT_.out ?_; refine qY 4 22 HT_.out ?_; refine qY 5 23 HT_.out ?_; refine qY 6 24 HT_.out ?_; refine tY 3 21 HT_.out HW_.out hHeld ?_; refine tY 7 25 HT_.out HW_.out hHeld ?_; refine one_ (i := 8) (N := some 26) #[J_,J_,J_,J_,J_,J_,J_,J_,J_,N_] rfl rfl (one_of HT_.out (by kernel_rfl)) (by decide) (fun K hK => ?_); refine goes_ Try.func18 (by kernel_rfl) rfl #[.agg #[.int .i64 ((rd_T26 l0 x5_1).f0), .slice A362_1 ((rd_T26 l0 x5_1).f1).length c362_1, .string ((rd_T26 l0 x5_1).f2)], .agg #[.int .i64 ((rd_T48 l1 x5_1).f0), .slice A363_1 ((rd_T48 l1 x5_1).f1).length c363_1, .string ((rd_T48 l1 x5_1).f2)]] (by rfl) rfl rfl ml ?_; with_reducible refine (archivistlaw16_sameEntry.calls k1 ((rd_T26 l0 x5_1).f0) _ _ ((rd_T26 l0 x5_1).f1) ((rd_T26 l0 x5_1).f2) ((rd_T48 l1 x5_1).f0) _ _ ((rd_T48 l1 x5_1).f1) ((rd_T48 l1 x5_1).f2) false _ ?side1 ?side2 ?side3 ?side4 A7.out).mono ?_
      (case side1 => repeat (first | exact (Kd.C_below HR362_1.out HB.out) | (with_reducible refine Kd.C_alloc ?_ _) | (with_reducible refine Kd.C_drewN ?_ _) | (with_reducible refine Kd.C_drew ?_)))
      (case side2 => exact HC362_1.out)
      (case side3 => repeat (first | exact (Kd.C_below HR363_1.out HB.out) | (with_reducible refine Kd.C_alloc ?_ _) | (with_reducible refine Kd.C_drewN ?_ _) | (with_reducible refine Kd.C_drew ?_)))
      (case side4 => exact HC363_1.out); rintro e w12 ⟨rfl, hb⟩; refine ⟨_, rfl, ?_⟩; replace HB := Aside0.mk (below_step bl hb)
      (try clear hb)
      (try clear hb2)
      (try clear hk)
      (try clear hi); refine hK.out _ _ ⟨(cu HB.out hw362_0 :), (cu HB.out hw362_1 :), (cu HB.out hw362_2 :), (cu HB.out hw363_0 :), (cu HB.out hw363_1 :), (cu HB.out hw363_2 :)⟩ (fun hHeld => ?_); clear hK K; refine norm_ (a' := ?_) ?_ ?_; rotate_left
      ·show Act.put _ (some 26) _ = _; simp only [Act.put, List.setIfInBounds_toArray, List.set_cons_zero, List.set_cons_succ, i64_w, i32_w]; rfl
      refine qY 9 6 HT_.out ?_; refine done_ (done_of HT_.out (by kernel_rfl)) ?_; (try go_wp2); go_ret
      exact ⟨zaa, bl⟩
    ·rw [if_neg c4] at H; have c4b0 : decide (x5_1 < (l0.length : Int)) = false := decide_eq_false c4; clear c4; obtain rfl := Option.some.inj H; go_wp2
     go_ret
     exact ⟨zaa, bl⟩
 ·rw [if_neg c3] at H; have c3b0 : ((l0.length : Int) == (l1.length : Int)) = false := beq_eq_false_iff_ne.mpr c3; have c3b1 : ((l0.length : Int) != (l1.length : Int)) = true := bne_iff_ne.mpr c3; have c3b2 : (l0.length == l1.length) = false := by first | simpa using c3 | (simp at c3 ⊢; omega)
  obtain rfl := Option.some.inj H; go_enter Try.func17, Try.ntmps17
  go_wp2
  go_ret
  exact ⟨zaa, bl⟩

end Go.Proofs.Ytaehlbbjbeibfaa.X
