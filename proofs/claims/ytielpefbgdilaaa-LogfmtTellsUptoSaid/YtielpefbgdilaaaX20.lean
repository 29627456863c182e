-- Laid by xprint.py, a program of this session's, out of the translation.
import Derived.Test.YtielpefbgdilaaaX0
import Derived.Test.YtielpefbgdilaaaX5
import Derived.Test.YtielpefbgdilaaaX8
import Derived.Test.YtielpefbgdilaaaX10
import Derived.Test.YtielpefbgdilaaaX11
import Derived.Test.YtielpefbgdilaaaX12
import Derived.Test.YtielpefbgdilaaaX13
import Derived.Test.YtielpefbgdilaaaX17
import Derived.Test.YtielpefbgdilaaaX18
import Derived.Test.YtielpefbgdilaaaX19
namespace Go.Proofs.Ytielpefbgdilaaa.X
open Go.RowKit Go.Proofs.YtielpefbgdilaaaW.PrintWords Go.Proofs.YtielpefbgdilaaaW.PrintLast Go.Proofs.YtielpefbgdilaaaW.PrintMore
attribute [local go_sem] max2_int min2_int max_two min_two max_three min_three max_four min_four x_isSome x_str_gtr x_str_leq x_str_geq   -- for this text's walks alone
set_option linter.unusedVariables false
set_option linter.unusedSimpArgs false

/-! ### archivistlaw10_refPairs: function 18 -/
def archivistlaw10_refPairs.l0 : Nat → List (S39) → List (S54) → Int → Option ((List (S54)))
 | 0, _, _, _ => none
 | k + 1, x0, x3, x4 => if x4 < (x0.length : Int) then (if 0 ≤ x4 then (if x3.length < 4398046511104 then (archivistlaw10_refPairs.l0 k x0 (x3 ++ [(⟨(rd_T39 x0 x4).f0, (rd_T39 x0 x4).f1⟩ : S54)]) (wrap64 (x4 + 1))) else (none)) else (none)) else (some x3)
def archivistlaw10_refPairs.f (k : Nat) (l0 : List (S39)) : Option ((List (S54))) := archivistlaw10_refPairs.l0 k l0 ([] : List (S54)) 0
theorem archivistlaw10_refPairs.mono_l : ∀ k, (∀ y0 y1 y2, LeO (archivistlaw10_refPairs.l0 k y0 y1 y2) (archivistlaw10_refPairs.l0 (k + 1) y0 y1 y2))
 | 0 => fun _ _ _ r h => by simp [archivistlaw10_refPairs.l0] at h
 | k + 1 => by
  have ih0 := archivistlaw10_refPairs.mono_l k
  ·intro y0 y1 y2
   unfold archivistlaw10_refPairs.l0
   repeat' first
   | (with_reducible exact ih0 _ _ _)
   | (with_reducible exact LeO.refl _)
   | (with_reducible exact LeO.none _)
   | (with_reducible refine LeO.ite ?_ ?_)
   | (with_reducible refine LeO.bind ?_ (fun _ => ?_))
   | exact ih0 _ _ _
   | exact LeO.none _
   | refine LeO.ite ?_ ?_
   | refine LeO.bind ?_ (fun _ => ?_)
theorem archivistlaw10_refPairs.mono : ∀ a0 k, LeO (archivistlaw10_refPairs.f k a0) (archivistlaw10_refPairs.f (k + 1) a0) := by
 intro a0 k
 have ih0 := archivistlaw10_refPairs.mono_l k
 unfold archivistlaw10_refPairs.f
 repeat' first
   | (with_reducible exact ih0 _ _ _)
   | (with_reducible exact LeO.refl _)
   | (with_reducible exact LeO.none _)
   | (with_reducible refine LeO.ite ?_ ?_)
   | (with_reducible refine LeO.bind ?_ (fun _ => ?_))
   | exact ih0 _ _ _
   | exact LeO.none _
   | refine LeO.ite ?_ ?_
   | refine LeO.bind ?_ (fun _ => ?_)
def archivistlaw10_refPairs.T5 : Bool × List (List Nat × List Nat) := (true, [([], []), ([], []), ([], []), ([1, 2], [1, 2]), ([3], [3]), ([4], [4]), ([], []), ([], []), ([6, 7], [6, 7]), ([8], [8]), ([9], [9]), ([5, 10], [5, 10]), ([11], [11]), ([0, 12], [0, 12]), ([13, 13, 0, 1, 2, 3, 4, 5, 6, 7, 8, 9, 10, 11, 12, 13], [0, 13])])
def archivistlaw10_refPairs.B5 : List Nat := [0, 0, 0, 6, 14, 30, 0, 0, 192, 448, 960, 2046, 4094, 8191, 16383]
theorem archivistlaw10_refPairs.tab5 : rtab .any (opsOf Try.f18 5) = archivistlaw10_refPairs.T5 := by kernel_rfl
theorem archivistlaw10_refPairs.bits5 : waitsOk archivistlaw10_refPairs.T5.2 archivistlaw10_refPairs.B5 = true := by kernel_rfl
set_option maxHeartbeats 8000000 in
set_option maxRecDepth 100000 in
theorem archivistlaw10_refPairs.calls (k : Nat) (A0 : Option Addr) (c0 : Nat) (l0 : List (S39)) (r : List (S54)) (w : World) (hr0 : Kd.C k39 w A0 l0.length l0) (hc0 : l0.length ≤ c0) (h : archivistlaw10_refPairs.f k l0 = some r) :
  Calls Try.prog 18 #[.slice A0 l0.length c0] w fun e w' => ∃ v0_ : Value, e = .returned (v0_) ∧ Kd.R k54 54 w' w.heap.size (fun _ => True) v0_ r ∧ Below w.heap.size w w' := by
 have hu54 := Try.underlying54
 have HR0 := Aside0.mk hr0
 have HC0 := Aside0.mk hc0
 clear hr0 hc0
 have HB := Aside0.mk (Below.refl w.heap.size w)
 have H : (archivistlaw10_refPairs.l0 k l0 ([] : List (S54)) 0) = some r := h
 clear h
 have H' := Aside0.mk H
 clear H
 go_enter Try.func18, Try.ntmps18
 go_wp2
 go_loopg [3, 4] k (fun kq v3 v4 w' => ∃ (x3_1 : List (S54)) (x4_1 : Int), v4 = .int .i64 x4_1 ∧ Aside0 (archivistlaw10_refPairs.l0 kq l0 x3_1 x4_1 = some r) ∧ Aside0 (kq ≤ k) ∧ Aside0 (Kd.R k54 54 w' w.heap.size (fun _ => True) v3 x3_1) ∧ Aside0 (Below w.heap.size w w'))
 case atStart => exact ⟨(([] : List (S54))), (0), rs, H', ⟨Nat.le_refl _⟩, ⟨by first | exact Kd.R_nil _ _ _ _ _ | exact Kd.N_nil _ _ _ _ _ | exact Kd.V_nil _ _ _ _ _ | exact Kd.Q_nil _ _ _ _ _ | exact Kd.S_nil _ _ _ _ _⟩, ⟨bl⟩⟩
 case round =>
  clear H'
  try clear c1
  obtain ⟨x3_1, x4_1, rfl, HA, HK1, HO_3, HB⟩ := hrel
  cases gk with
  | zero => exact absurd HA.out (by simp [archivistlaw10_refPairs.l0])
  | succ k1 =>
   have H := HA.out
   clear HA
   simp only [archivistlaw10_refPairs.l0] at H
   by_cases c2 : x4_1 < (l0.length : Int)
   ·rw [if_pos c2] at H
    have c2b0 := decide_eq_true c2
    clear c2
    by_cases c3 : 0 ≤ x4_1
    ·rw [if_pos c3] at H
     have c3b0 := decide_eq_true c3
     clear c3
     by_cases c4 : x3_1.length < 4398046511104
     ·rw [if_pos c4] at H
      have LMc4 := Aside0.mk c4
      clear c4
      obtain ⟨y366, hy366⟩ : ∃ y_ : List (S54), y_ = (x3_1 ++ [(⟨(rd_T39 l0 x4_1).f0, (rd_T39 l0 x4_1).f1⟩ : S54)]) := ⟨_, rfl⟩
      replace H : (archivistlaw10_refPairs.l0 k1 l0 y366 (wrap64 (x4_1 + 1))) = some r := by first | (rw [hy366]; with_reducible exact H) | (have H2_ := (Option.bind_some _ _).symm.trans H; rw [hy366]; with_reducible exact H2_) | (have H2_ := (Option.bind_some _ _).symm.trans H; with_reducible exact H2_) | with_reducible exact H | (rw [hy366]; exact H) | exact H
      have Ny366 := Aside0.mk hy366
      clear hy366
      have H' := Aside0.mk H
      clear H
      try go_wp2
      have n0_ := Aside0.mk (Kd.R_drew HO_3.out)
      have n1_ := Aside0.mk (below_drew1 HB.out)
      clear HO_3
      clear HB
      have HO_3 := n0_
      have HB := n1_
      clear n0_ n1_
      have p364 : 0 ≤ (x4_1 : Int) := od
      have q364 : x4_1 < (l0.length : Int) := od
      obtain ⟨ad364, e364, hx364_0, hx364_1⟩ := at_T39 HR0.out x4_1 p364 q364
      have hw364_1 := hx364_1
      have hw364_0 := hx364_0
      cases e364
      replace hx364_0 := cu HB.out hx364_0
      replace hx364_1 := cu HB.out hx364_1
      replace p364 := eq_true p364
      replace q364 := eq_true q364
      have p365 : 0 ≤ (x4_1 : Int) := od
      have q365 : x4_1 < (l0.length : Int) := od
      obtain ⟨ad365, e365, hx365_0, hx365_1⟩ := at_T39 HR0.out x4_1 p365 q365
      have hw365_1 := hx365_1
      have hw365_0 := hx365_0
      obtain rfl : ad364 = ad365 := (by injection e365)
      replace hx365_0 := cu HB.out hx365_0
      replace hx365_1 := cu HB.out hx365_1
      replace p365 := eq_true p365
      replace q365 := eq_true q365
      refine start_ (n := 15) (S := fun w' => w'.cell? (ad364.add ((x4_1).toNat * 2)) = some (.string ((rd_T39 l0 x4_1).f0)) ∧ w'.cell? ⟨(ad364.add ((x4_1).toNat * 2)).block, (ad364.add ((x4_1).toNat * 2)).off + 1, none⟩ = some (.string ((rd_T39 l0 x4_1).f1)) ∧ w'.cell? (ad364.add ((x4_1).toNat * 2)) = some (.string ((rd_T39 l0 x4_1).f0)) ∧ w'.cell? ⟨(ad364.add ((x4_1).toNat * 2)).block, (ad364.add ((x4_1).toNat * 2)).off + 1, none⟩ = some (.string ((rd_T39 l0 x4_1).f1))) (ds := []) #[N_,N_,N_,N_,N_,N_,N_,N_,N_,N_,N_,N_,N_,N_,N_] (by kernel_rfl) rfl rfl ⟨(cu HB.out hw364_0 :), (cu HB.out hw364_1 :), (cu HB.out hw365_0 :), (cu HB.out hw365_1 :)⟩ (fun hHeld => ?_); refine with_tabW archivistlaw10_refPairs.tab5 archivistlaw10_refPairs.bits5 (fun HT_ HW_ => ?_)
      generalize wr.drew = w5 at HO_3 HB hx364_0 hx364_1 hx365_0 hx365_1 hHeld ⊢
      refine pY 0 11 #[J_,N_,N_,N_,N_,N_,N_,N_,N_,N_,N_,N_,N_,N_,N_] HT_.out ?_
      refine pY 1 12 #[J_,J_,N_,N_,N_,N_,N_,N_,N_,N_,N_,N_,N_,N_,N_] HT_.out ?_
      refine pY 2 13 #[J_,J_,J_,N_,N_,N_,N_,N_,N_,N_,N_,N_,N_,N_,N_] HT_.out ?_
      refine pY 3 14 #[J_,J_,J_,J_,N_,N_,N_,N_,N_,N_,N_,N_,N_,N_,N_] HT_.out ?_
      refine pY 4 15 #[J_,J_,J_,J_,J_,N_,N_,N_,N_,N_,N_,N_,N_,N_,N_] HT_.out ?_
      refine pY 6 17 #[J_,J_,J_,J_,J_,N_,J_,N_,N_,N_,N_,N_,N_,N_,N_] HT_.out ?_
      refine pY 7 18 #[J_,J_,J_,J_,J_,N_,J_,J_,N_,N_,N_,N_,N_,N_,N_] HT_.out ?_
      refine pY 8 19 #[J_,J_,J_,J_,J_,N_,J_,J_,J_,N_,N_,N_,N_,N_,N_] HT_.out ?_
      refine pY 9 20 #[J_,J_,J_,J_,J_,N_,J_,J_,J_,J_,N_,N_,N_,N_,N_] HT_.out ?_
      refine take_ (i := 5) (N := some 16) (v := ?_) (a' := ?_) #[J_,J_,J_,J_,J_,J_,J_,J_,J_,J_,N_,N_,N_,N_,N_] rfl rfl (take_ofW HT_.out HW_.out (by kernel_rfl)) (fun _ _ _ h => h) (Or.inl ⟨by rfl, ?_⟩) hHeld ?_ ?_
      rotate_left
      ·rintro w' ⟨s0, s1, s2, s3⟩
       go_simp
       with_reducible rfl
      rotate_left
      ·simp only [Act.put, List.setIfInBounds_toArray, List.set_cons_zero, List.set_cons_succ, i64_w, i32_w]
       rfl
      refine take_ (i := 10) (N := some 21) (v := ?_) (a' := ?_) #[J_,J_,J_,J_,J_,J_,J_,J_,J_,J_,J_,N_,N_,N_,N_] rfl rfl (take_ofW HT_.out HW_.out (by kernel_rfl)) (fun _ _ _ h => h) (Or.inl ⟨by rfl, ?_⟩) hHeld ?_ ?_
      rotate_left
      ·rintro w' ⟨s0, s1, s2, s3⟩
       go_simp
       with_reducible rfl
      rotate_left
      ·simp only [Act.put, List.setIfInBounds_toArray, List.set_cons_zero, List.set_cons_succ, i64_w, i32_w]
       rfl
      refine pY 11 22 #[J_,J_,J_,J_,J_,J_,J_,J_,J_,J_,J_,J_,N_,N_,N_] HT_.out ?_
      refine one_ (i := 12) (N := some 23) #[J_,J_,J_,J_,J_,J_,J_,J_,J_,J_,J_,J_,J_,N_,N_] rfl rfl (one_of HT_.out (by kernel_rfl)) (by decide) (fun K hK => ?_)
      refine value_ (w1 := ?_) (v := ?_) (by rfl) rfl ?_ ?_
      rotate_left 2
      ·go_simp
       constructor
       ·rfl
       ·rfl
      refine hK.out _ _ ⟨(World.cell?_alloc_lt _ _ _ (World.block_lt_of_cell? _ _ ((cu HB.out hw364_0 :)))).trans ((cu HB.out hw364_0 :)), (World.cell?_alloc_lt _ _ _ (World.block_lt_of_cell? _ _ ((cu HB.out hw364_1 :)))).trans ((cu HB.out hw364_1 :)), (World.cell?_alloc_lt _ _ _ (World.block_lt_of_cell? _ _ ((cu HB.out hw365_0 :)))).trans ((cu HB.out hw365_0 :)), (World.cell?_alloc_lt _ _ _ (World.block_lt_of_cell? _ _ ((cu HB.out hw365_1 :)))).trans ((cu HB.out hw365_1 :))⟩ (fun hHeld => ?_)
      clear hK K
      refine norm_ (a' := ?_) ?_ ?_
      rotate_left
      ·show Act.put _ (some 23) _ = _
       simp only [Act.put, List.setIfInBounds_toArray, List.set_cons_zero, List.set_cons_succ, i64_w, i32_w]
       rfl
      refine one_ (i := 13) (N := some 24) #[J_,J_,J_,J_,J_,J_,J_,J_,J_,J_,J_,J_,J_,J_,N_] rfl rfl (one_of HT_.out (by kernel_rfl)) (by decide) (fun K hK => ?_)
      refine Kd.R_append_step k54 (w0 := w) w.heap.size (by rfl) (.tmp 11) (.tmp 23) 30 54 (.agg #[(.string ⟨#[]⟩), (.string ⟨#[]⟩)]) 32 rfl Try.underlying30 info54 rfl (by decide) (by omega) u3 x3_1 (⟨(rd_T39 l0 x4_1).f0, (rd_T39 l0 x4_1).f1⟩ : S54) [.string ((rd_T39 l0 x4_1).f0), .string ((rd_T39 l0 x4_1).f1)] (fun _ => True) (fun _ => False) rfl rfl ?aP (fun _ hk => hk.elim) ?aF ?aO ?aB ?aS ?aL ?_
      (case aP => exact k54_mkM _ _ _ (⟨(rd_T39 l0 x4_1).f0, (rd_T39 l0 x4_1).f1⟩ : S54))
      (case aB => exact bl)
      (case aF => exact (fun _ _ => trivial))
      (case aO => exact (rz HO_3.out))
      (case aS => exact (below_size bl))
      (case aL => have := LMc4.out; omega)
      intro v367 w6 ho hb hg hat
      rw [← Ny366.out] at ho
      have n0_ := Aside0.mk (hb)
      have n1_ := Aside0.mk (ho)
      clear HB
      clear HO_3
      have HB := n0_
      have HO368 := n1_
      clear n0_ n1_
      clear ho hb hg hat
      refine hK.out _ _ ⟨(cu HB.out hw364_0 :), (cu HB.out hw364_1 :), (cu HB.out hw365_0 :), (cu HB.out hw365_1 :)⟩ (fun hHeld => ?_)
      clear hK K
      refine norm_ (a' := ?_) ?_ ?_
      rotate_left
      ·show Act.put _ (some 24) _ = _
       simp only [Act.put, List.setIfInBounds_toArray, List.set_cons_zero, List.set_cons_succ, i64_w, i32_w]
       rfl
      refine pY 14 3 #[J_,J_,J_,J_,J_,J_,J_,J_,J_,J_,J_,J_,J_,J_,J_] HT_.out ?_
      refine done_ (done_of HT_.out (by kernel_rfl)) ?_
      try go_wp2
      go_roundg k1
      case measure => have := HK1.out; omega
      case rel => exact ⟨(y366), (wrap64 (x4_1 + 1)), rs, H', ⟨by have := HK1.out; omega⟩, ⟨rz HO368.out⟩, ⟨bl⟩⟩
     ·rw [if_neg c4] at H
      exact absurd H (by simp)
    ·rw [if_neg c3] at H
     exact absurd H (by simp)
   ·rw [if_neg c2] at H
    have c2b0 : decide (x4_1 < (l0.length : Int)) = false := decide_eq_false c2
    clear c2
    obtain rfl := Option.some.inj H
    go_wp2
    go_ret
    exact ⟨_, by first | rfl | (simp [errW_none, errW_some] <;> rfl) | (simp [*, errW_none, errW_some] <;> rfl), by (with_reducible repeat (first | apply Kd.R_alloc | apply Kd.R_drewN | apply Kd.R_drew)); exact HO_3.out, bl⟩

/-! ### archivistlaw10_LogfmtTells: function 3 -/
def archivistlaw10_LogfmtTells.j0 : Nat → ByteArray → List (S41) → Bool → Option (Bool)
 | 0, _, _, _ => none
 | k + 1, x0, x3, x9 => (archivistlaw10_tags.f k x3 20).bind fun t371 => ((logfmt_All.f k x0).bind fun t374 => ((archivistref10_All.f k x0).bind fun t377 => ((archivistlaw10_samePairs.f k t374 t377).bind fun t380 => ((logfmt_Of.f k x0).bind fun t381 => ((archivistref10_Of.f k x0).bind fun t384 => ((archivistlaw10_samePairs.f k t381 t384).bind fun t387 => (if x9 = true then (if t380 = true then (if t387 = true then ((logfmt_Put.f k t371).bind fun t388 => ((archivistlaw10_refPairs.f k t371).bind fun t389 => ((archivistref10_Put.f k t389).bind fun t392 => (some (t388.toList == t392.toList))))) else (none)) else (none)) else (none))))))))
def archivistlaw10_LogfmtTells.f (k : Nat) (a0 : ByteArray) (a1 : Bool) (l2 : List Int) (l3 : List (S41)) : Option (Bool) := (archivistlaw10_examples.f k).bind fun t369 => (if t369 = true then (if a1 = true then ((archivistlaw10_line.f k l2).bind fun t370 => (archivistlaw10_LogfmtTells.j0 k t370 l3 t369)) else (archivistlaw10_LogfmtTells.j0 k a0 l3 t369)) else (none))
theorem archivistlaw10_LogfmtTells.mono_l : ∀ k, (∀ y0 y1 y2, LeO (archivistlaw10_LogfmtTells.j0 k y0 y1 y2) (archivistlaw10_LogfmtTells.j0 (k + 1) y0 y1 y2))
 | 0 => fun _ _ _ r h => by simp [archivistlaw10_LogfmtTells.j0] at h
 | k + 1 => by
  have ih0 := archivistlaw10_LogfmtTells.mono_l k
  ·intro y0 y1 y2
   unfold archivistlaw10_LogfmtTells.j0
   repeat' first
   | (with_reducible exact ih0 _ _ _)
   | (with_reducible exact archivistlaw10_examples.mono _)
   | (with_reducible exact archivistlaw10_line.mono _ _)
   | (with_reducible exact archivistlaw10_refPairs.mono _ _)
   | (with_reducible exact archivistlaw10_samePairs.mono _ _ _)
   | (with_reducible exact archivistlaw10_tags.mono _ _ _)
   | (with_reducible exact archivistref10_All.mono _ _)
   | (with_reducible exact archivistref10_Of.mono _ _)
   | (with_reducible exact archivistref10_Put.mono _ _)
   | (with_reducible exact logfmt_All.mono _ _)
   | (with_reducible exact logfmt_Of.mono _ _)
   | (with_reducible exact logfmt_Put.mono _ _)
   | (with_reducible exact LeO.refl _)
   | (with_reducible exact LeO.none _)
   | (with_reducible refine LeO.ite ?_ ?_)
   | (with_reducible refine LeO.bind ?_ (fun _ => ?_))
   | exact ih0 _ _ _
   | exact archivistlaw10_examples.mono _
   | exact archivistlaw10_line.mono _ _
   | exact archivistlaw10_refPairs.mono _ _
   | exact archivistlaw10_samePairs.mono _ _ _
   | exact archivistlaw10_tags.mono _ _ _
   | exact archivistref10_All.mono _ _
   | exact archivistref10_Of.mono _ _
   | exact archivistref10_Put.mono _ _
   | exact logfmt_All.mono _ _
   | exact logfmt_Of.mono _ _
   | exact logfmt_Put.mono _ _
   | exact LeO.none _
   | refine LeO.ite ?_ ?_
   | refine LeO.bind ?_ (fun _ => ?_)
theorem archivistlaw10_LogfmtTells.mono : ∀ a0 a1 a2 a3 k, LeO (archivistlaw10_LogfmtTells.f k a0 a1 a2 a3) (archivistlaw10_LogfmtTells.f (k + 1) a0 a1 a2 a3) := by
 intro a0 a1 a2 a3 k
 have ih0 := archivistlaw10_LogfmtTells.mono_l k
 unfold archivistlaw10_LogfmtTells.f
 repeat' first
   | (with_reducible exact ih0 _ _ _)
   | (with_reducible exact archivistlaw10_examples.mono _)
   | (with_reducible exact archivistlaw10_line.mono _ _)
   | (with_reducible exact archivistlaw10_refPairs.mono _ _)
   | (with_reducible exact archivistlaw10_samePairs.mono _ _ _)
   | (with_reducible exact archivistlaw10_tags.mono _ _ _)
   | (with_reducible exact archivistref10_All.mono _ _)
   | (with_reducible exact archivistref10_Of.mono _ _)
   | (with_reducible exact archivistref10_Put.mono _ _)
   | (with_reducible exact logfmt_All.mono _ _)
   | (with_reducible exact logfmt_Of.mono _ _)
   | (with_reducible exact logfmt_Put.mono _ _)
   | (with_reducible exact LeO.refl _)
   | (with_reducible exact LeO.none _)
   | (with_reducible refine LeO.ite ?_ ?_)
   | (with_reducible refine LeO.bind ?_ (fun _ => ?_))
   | exact ih0 _ _ _
   | exact archivistlaw10_examples.mono _
   | exact archivistlaw10_line.mono _ _
   | exact archivistlaw10_refPairs.mono _ _
   | exact archivistlaw10_samePairs.mono _ _ _
   | exact archivistlaw10_tags.mono _ _ _
   | exact archivistref10_All.mono _ _
   | exact archivistref10_Of.mono _ _
   | exact archivistref10_Put.mono _ _
   | exact logfmt_All.mono _ _
   | exact logfmt_Of.mono _ _
   | exact logfmt_Put.mono _ _
   | exact LeO.none _
   | refine LeO.ite ?_ ?_
   | refine LeO.bind ?_ (fun _ => ?_)
set_option maxHeartbeats 8000000 in
set_option maxRecDepth 100000 in
theorem archivistlaw10_LogfmtTells.calls (k : Nat) (a0 : ByteArray) (a1 : Bool) (A2 : Option Addr) (c2 : Nat) (l2 : List Int) (A3 : Option Addr) (c3 : Nat) (l3 : List (S41)) (r : Bool) (w : World) (hr2 : Kd.C (Kd.int .u8) w A2 l2.length l2) (hc2 : l2.length ≤ c2) (hr3 : Kd.C k41 w A3 l3.length l3) (hc3 : l3.length ≤ c3) (h : archivistlaw10_LogfmtTells.f k a0 a1 l2 l3 = some r) :
  Calls Try.prog 3 #[.string a0, .bool a1, .slice A2 l2.length c2, .slice A3 l3.length c3] w fun e w' => e = .returned (.bool r) ∧ Below w.heap.size w w' := by
 have HR2 := Aside0.mk hr2
 have HC2 := Aside0.mk hc2
 clear hr2 hc2
 have HR3 := Aside0.mk hr3
 have HC3 := Aside0.mk hc3
 clear hr3 hc3
 have HB := Aside0.mk (Below.refl w.heap.size w)
 have H : ((archivistlaw10_examples.f k).bind fun t369 => (if t369 = true then (if a1 = true then ((archivistlaw10_line.f k l2).bind fun t370 => (archivistlaw10_LogfmtTells.j0 k t370 l3 t369)) else (archivistlaw10_LogfmtTells.j0 k a0 l3 t369)) else (none))) = some r := h
 clear h
 replace H := Option.bind_eq_some_iff.mp H
 obtain ⟨t369, A50, H⟩ := H
 replace H : (if t369 = true then (if a1 = true then ((archivistlaw10_line.f k l2).bind fun t370 => (archivistlaw10_LogfmtTells.j0 k t370 l3 t369)) else (archivistlaw10_LogfmtTells.j0 k a0 l3 t369)) else (none)) = some r := H
 have A5 := Aside0.mk A50
 clear A50
 by_cases c6 : t369 = true
 ·subst c6
  have H1 : (if a1 = true then ((archivistlaw10_line.f k l2).bind fun t370 => (archivistlaw10_LogfmtTells.j0 k t370 l3 true)) else (archivistlaw10_LogfmtTells.j0 k a0 l3 true)) = some r := by rw [if_pos rfl] at H; exact H
  clear H
  have H := H1
  clear H1
  have HC7 := Aside0.mk H
  clear H
  go_enter Try.func3, Try.ntmps3
  go_upto_if 16 with (first | ((with_reducible refine gate_callee (f := 8) rfl ?_); refine goesL_ (some 13) rfl rfl Try.func8 (by kernel_rfl) rfl #[] rfl ml ?_; (with_reducible refine (archivistlaw10_examples.calls k  true _ A5.out).mono ?_); rintro e w8 ⟨rfl, hb⟩; refine ⟨_, rfl, ?_⟩; have n0_ := Aside0.mk (below_step bl hb); clear HB; have HB := n0_; clear n0_; (try clear hb); (try clear hb2); (try clear hk); (try clear hi)))
  (try simp only [Act.put, List.setIfInBounds_toArray, List.set_cons_zero, List.set_cons_succ])
  go_cut [0] (fun v0 wc => ∃ (kq : Nat) (x0_6 : ByteArray), v0 = .string x0_6 ∧ Aside0 (archivistlaw10_LogfmtTells.j0 kq x0_6 l3 true = some r) ∧ Aside0 (kq ≤ k) ∧ Aside0 (Below w.heap.size w wc))
  case first =>
   have H := HC7.out
   clear HC7
   by_cases c9 : a1 = true
   ·subst c9
    have H1 : ((archivistlaw10_line.f k l2).bind fun t370 => (archivistlaw10_LogfmtTells.j0 k t370 l3 true)) = some r := by rw [if_pos rfl] at H; exact H
    clear H
    have H := H1
    clear H1
    replace H := Option.bind_eq_some_iff.mp H
    obtain ⟨t370, A100, H⟩ := H
    replace H : (archivistlaw10_LogfmtTells.j0 k t370 l3 true) = some r := H
    have A10 := Aside0.mk A100
    clear A100
    have H' := Aside0.mk H
    clear H
    go_wp2_with (first | ((with_reducible refine gate_callee (f := 9) rfl ?_); refine goesL_ (some 18) rfl rfl Try.func9 (by kernel_rfl) rfl #[.slice A2 l2.length c2] rfl ml ?_; (with_reducible refine (archivistlaw10_line.calls k _ _ l2 t370 _ ?side1 ?side2 A10.out).mono ?_); (case side1 => repeat (first | exact (Kd.C_below HR2.out HB.out) | (with_reducible refine Kd.C_alloc ?_ _) | (with_reducible refine Kd.C_drewN ?_ _) | (with_reducible refine Kd.C_drew ?_))); (case side2 => exact HC2.out); rintro e w11 ⟨rfl, hb⟩; refine ⟨_, rfl, ?_⟩; have n0_ := Aside0.mk (below_step bl hb); clear HB; have HB := n0_; clear n0_; (try clear hb); (try clear hb2); (try clear hk); (try clear hi)))
    go_meet
    case rel => exact ⟨_, (t370), rs, H', ⟨by first | omega | exact Nat.le_refl _⟩, ⟨bl⟩⟩
   ·replace c9 := Bool.eq_false_iff.mpr c9
    subst c9
    have H1 : (archivistlaw10_LogfmtTells.j0 k a0 l3 true) = some r := by rw [if_neg (show ¬ (false = true) by decide)] at H; exact H
    clear H
    have H := H1
    clear H1
    have H' := Aside0.mk H
    clear H
    go_wp2
    go_meet
    case rel => exact ⟨_, (a0), rs, H', ⟨by first | omega | exact Nat.le_refl _⟩, ⟨bl⟩⟩
  case rest =>
   clear HC7
   try clear c2
   try clear p2
   try clear c3
   try clear c6
   try clear c8
   try clear c9
   obtain ⟨kq, x0_6, rfl, HA, HJ6, HB⟩ := hcut
   cases kq with
   | zero => exact absurd HA.out (by simp [archivistlaw10_LogfmtTells.j0])
   | succ kj6 =>
    have H := HA.out
    clear HA
    simp only [archivistlaw10_LogfmtTells.j0] at H
    replace H := Option.bind_eq_some_iff.mp H
    obtain ⟨t371, A120, H⟩ := H
    replace H : ((logfmt_All.f kj6 x0_6).bind fun t374 => ((archivistref10_All.f kj6 x0_6).bind fun t377 => ((archivistlaw10_samePairs.f kj6 t374 t377).bind fun t380 => ((logfmt_Of.f kj6 x0_6).bind fun t381 => ((archivistref10_Of.f kj6 x0_6).bind fun t384 => ((archivistlaw10_samePairs.f kj6 t381 t384).bind fun t387 => (if true = true then (if t380 = true then (if t387 = true then ((logfmt_Put.f kj6 t371).bind fun t388 => ((archivistlaw10_refPairs.f kj6 t371).bind fun t389 => ((archivistref10_Put.f kj6 t389).bind fun t392 => (some (t388.toList == t392.toList))))) else (none)) else (none)) else (none)))))))) = some r := H
    have A12 := Aside0.mk A120
    clear A120
    replace H := Option.bind_eq_some_iff.mp H
    obtain ⟨t374, A130, H⟩ := H
    replace H : ((archivistref10_All.f kj6 x0_6).bind fun t377 => ((archivistlaw10_samePairs.f kj6 t374 t377).bind fun t380 => ((logfmt_Of.f kj6 x0_6).bind fun t381 => ((archivistref10_Of.f kj6 x0_6).bind fun t384 => ((archivistlaw10_samePairs.f kj6 t381 t384).bind fun t387 => (if true = true then (if t380 = true then (if t387 = true then ((logfmt_Put.f kj6 t371).bind fun t388 => ((archivistlaw10_refPairs.f kj6 t371).bind fun t389 => ((archivistref10_Put.f kj6 t389).bind fun t392 => (some (t388.toList == t392.toList))))) else (none)) else (none)) else (none))))))) = some r := H
    have A13 := Aside0.mk A130
    clear A130
    replace H := Option.bind_eq_some_iff.mp H
    obtain ⟨t377, A140, H⟩ := H
    replace H : ((archivistlaw10_samePairs.f kj6 t374 t377).bind fun t380 => ((logfmt_Of.f kj6 x0_6).bind fun t381 => ((archivistref10_Of.f kj6 x0_6).bind fun t384 => ((archivistlaw10_samePairs.f kj6 t381 t384).bind fun t387 => (if true = true then (if t380 = true then (if t387 = true then ((logfmt_Put.f kj6 t371).bind fun t388 => ((archivistlaw10_refPairs.f kj6 t371).bind fun t389 => ((archivistref10_Put.f kj6 t389).bind fun t392 => (some (t388.toList == t392.toList))))) else (none)) else (none)) else (none)))))) = some r := H
    have A14 := Aside0.mk A140
    clear A140
    replace H := Option.bind_eq_some_iff.mp H
    obtain ⟨t380, A150, H⟩ := H
    replace H : ((logfmt_Of.f kj6 x0_6).bind fun t381 => ((archivistref10_Of.f kj6 x0_6).bind fun t384 => ((archivistlaw10_samePairs.f kj6 t381 t384).bind fun t387 => (if true = true then (if t380 = true then (if t387 = true then ((logfmt_Put.f kj6 t371).bind fun t388 => ((archivistlaw10_refPairs.f kj6 t371).bind fun t389 => ((archivistref10_Put.f kj6 t389).bind fun t392 => (some (t388.toList == t392.toList))))) else (none)) else (none)) else (none))))) = some r := H
    have A15 := Aside0.mk A150
    clear A150
    replace H := Option.bind_eq_some_iff.mp H
    obtain ⟨t381, A160, H⟩ := H
    replace H : ((archivistref10_Of.f kj6 x0_6).bind fun t384 => ((archivistlaw10_samePairs.f kj6 t381 t384).bind fun t387 => (if true = true then (if t380 = true then (if t387 = true then ((logfmt_Put.f kj6 t371).bind fun t388 => ((archivistlaw10_refPairs.f kj6 t371).bind fun t389 => ((archivistref10_Put.f kj6 t389).bind fun t392 => (some (t388.toList == t392.toList))))) else (none)) else (none)) else (none)))) = some r := H
    have A16 := Aside0.mk A160
    clear A160
    replace H := Option.bind_eq_some_iff.mp H
    obtain ⟨t384, A170, H⟩ := H
    replace H : ((archivistlaw10_samePairs.f kj6 t381 t384).bind fun t387 => (if true = true then (if t380 = true then (if t387 = true then ((logfmt_Put.f kj6 t371).bind fun t388 => ((archivistlaw10_refPairs.f kj6 t371).bind fun t389 => ((archivistref10_Put.f kj6 t389).bind fun t392 => (some (t388.toList == t392.toList))))) else (none)) else (none)) else (none))) = some r := H
    have A17 := Aside0.mk A170
    clear A170
    replace H := Option.bind_eq_some_iff.mp H
    obtain ⟨t387, A180, H⟩ := H
    replace H : (if true = true then (if t380 = true then (if t387 = true then ((logfmt_Put.f kj6 t371).bind fun t388 => ((archivistlaw10_refPairs.f kj6 t371).bind fun t389 => ((archivistref10_Put.f kj6 t389).bind fun t392 => (some (t388.toList == t392.toList))))) else (none)) else (none)) else (none)) = some r := H
    have A18 := Aside0.mk A180
    clear A180
    by_cases c19 : true = true
    ·clear c19
     have H1 : (if t380 = true then (if t387 = true then ((logfmt_Put.f kj6 t371).bind fun t388 => ((archivistlaw10_refPairs.f kj6 t371).bind fun t389 => ((archivistref10_Put.f kj6 t389).bind fun t392 => (some (t388.toList == t392.toList))))) else (none)) else (none)) = some r := by first | (rw [if_pos rfl] at H; exact H) | (rw [if_pos trivial] at H; exact H)
     clear H
     have H := H1
     clear H1
     by_cases c20 : t380 = true
     ·subst c20
      have H1 : (if t387 = true then ((logfmt_Put.f kj6 t371).bind fun t388 => ((archivistlaw10_refPairs.f kj6 t371).bind fun t389 => ((archivistref10_Put.f kj6 t389).bind fun t392 => (some (t388.toList == t392.toList))))) else (none)) = some r := by first | (rw [if_pos rfl] at H; exact H) | (rw [if_pos trivial] at H; exact H)
      clear H
      have H := H1
      clear H1
      by_cases c21 : t387 = true
      ·subst c21
       have H1 : ((logfmt_Put.f kj6 t371).bind fun t388 => ((archivistlaw10_refPairs.f kj6 t371).bind fun t389 => ((archivistref10_Put.f kj6 t389).bind fun t392 => (some (t388.toList == t392.toList))))) = some r := by first | (rw [if_pos rfl] at H; exact H) | (rw [if_pos trivial] at H; exact H)
       clear H
       have H := H1
       clear H1
       replace H := Option.bind_eq_some_iff.mp H
       obtain ⟨t388, A220, H⟩ := H
       replace H : ((archivistlaw10_refPairs.f kj6 t371).bind fun t389 => ((archivistref10_Put.f kj6 t389).bind fun t392 => (some (t388.toList == t392.toList)))) = some r := H
       have A22 := Aside0.mk A220
       clear A220
       replace H := Option.bind_eq_some_iff.mp H
       obtain ⟨t389, A230, H⟩ := H
       replace H : ((archivistref10_Put.f kj6 t389).bind fun t392 => (some (t388.toList == t392.toList))) = some r := H
       have A23 := Aside0.mk A230
       clear A230
       replace H := Option.bind_eq_some_iff.mp H
       obtain ⟨t392, A240, H⟩ := H
       replace H : (some (t388.toList == t392.toList)) = some r := H
       have A24 := Aside0.mk A240
       clear A240
       obtain rfl := Option.some.inj H
       go_wp2_with (first | ((with_reducible refine gate_callee (f := 10) rfl ?_); refine goesL_ (some 20) rfl rfl Try.func10 (by kernel_rfl) rfl #[.slice A3 l3.length c3, .int .i64 20] rfl ml ?_; (with_reducible refine (archivistlaw10_tags.calls kj6 _ _ l3 20 t371 _ ?side1 ?side2 A12.out).mono ?_); (case side1 => repeat (first | exact (Kd.C_below HR3.out HB.out) | (with_reducible refine Kd.C_alloc ?_ _) | (with_reducible refine Kd.C_drewN ?_ _) | (with_reducible refine Kd.C_drew ?_))); (case side2 => exact HC3.out); rintro e w25 ⟨v372, rfl, ho0, hb⟩; refine ⟨_, rfl, ?_⟩; have n0_ := Aside0.mk (Kd.R_lower ho0 (below_size bl)); have n1_ := Aside0.mk (below_step bl hb); clear HB; have HO373 := n0_; have HB := n1_; clear n0_ n1_; (try clear hb); (try clear hb2); (try clear hk); (try clear hi); (try clear ho0)) | ((with_reducible refine gate_callee (f := 12) rfl ?_); refine goesL_ (some 22) rfl rfl Try.func12 (by kernel_rfl) rfl #[.string x0_6] rfl ml ?_; (with_reducible refine (logfmt_All.calls kj6 x0_6 t374 _ A13.out).mono ?_); rintro e w26 ⟨v375, rfl, ho0, hb⟩; refine ⟨_, rfl, ?_⟩; have n0_ := Aside0.mk (Kd.R_elder' (rz HO373.out) (Kd.R_base ho0) hb); have n1_ := Aside0.mk (Kd.R_lower (Kd.R_new' ho0 (Kd.R_lt (rz HO373.out))) (below_size bl)); have n2_ := Aside0.mk (below_step bl hb); clear HO373; clear HB; have HO373 := n0_; have HO376 := n1_; have HB := n2_; clear n0_ n1_ n2_; (try clear hb); (try clear hb2); (try clear hk); (try clear hi); (try clear ho0)) | ((with_reducible refine gate_callee (f := 13) rfl ?_); refine goesL_ (some 24) rfl rfl Try.func13 (by kernel_rfl) rfl #[.string x0_6] rfl ml ?_; (with_reducible refine (archivistref10_All.calls kj6 x0_6 t377 _ A14.out).mono ?_); rintro e w27 ⟨v378, rfl, ho0, hb⟩; refine ⟨_, rfl, ?_⟩; have n0_ := Aside0.mk (Kd.R_below (rz HO373.out) hb); have n1_ := Aside0.mk (Kd.R_below (rz HO376.out) hb); have n2_ := Aside0.mk (Kd.R_lower ho0 (below_size bl)); have n3_ := Aside0.mk (below_step bl hb); clear HO373; clear HO376; clear HB; have HO373 := n0_; have HO376 := n1_; have HO379 := n2_; have HB := n3_; clear n0_ n1_ n2_ n3_; (try clear hb); (try clear hb2); (try clear hk); (try clear hi); (try clear ho0); obtain ⟨Ao28, co28, eo28⟩ := Kd.R_slice HO376.out; subst eo28; obtain ⟨Ao29, co29, eo29⟩ := Kd.R_slice HO379.out; subst eo29) | ((with_reducible refine gate_callee (f := 11) rfl ?_); refine goesL_ (some 25) rfl rfl Try.func11 (by kernel_rfl) rfl #[.slice Ao28 t374.length co28, .slice Ao29 t377.length co29] rfl ml ?_; (with_reducible refine (archivistlaw10_samePairs.calls kj6 _ _ t374 _ _ t377 true _ ?side1 ?side2 ?side3 ?side4 A15.out).mono ?_); (case side1 => exact cz (Kd.R_reads' HO376.out).2.2); (case side2 => exact (Kd.R_reads' HO376.out).2.1); (case side3 => exact cz (Kd.R_reads' HO379.out).2.2); (case side4 => exact (Kd.R_reads' HO379.out).2.1); rintro e w' ⟨rfl, ⟨nd, rfl⟩⟩; refine ⟨_, rfl, ?_⟩) | ((with_reducible refine gate_callee (f := 14) rfl ?_); refine goesL_ (some 27) rfl rfl Try.func14 (by kernel_rfl) rfl #[.string x0_6] rfl ml ?_; (with_reducible refine (logfmt_Of.calls kj6 x0_6 t381 _ A16.out).mono ?_); rintro e w30 ⟨v382, rfl, ho0, hb⟩; refine ⟨_, rfl, ?_⟩; have n0_ := Aside0.mk (Kd.R_elder' (rz HO373.out) (Kd.R_base ho0) hb); have n1_ := Aside0.mk (Kd.R_elder' (rz HO376.out) (Kd.R_base ho0) hb); have n2_ := Aside0.mk (Kd.R_below (rz HO379.out) hb); have n3_ := Aside0.mk (Kd.R_lower (Kd.R_new' (Kd.R_new' ho0 (Kd.R_lt (rz HO373.out))) (Kd.R_lt (rz HO376.out))) (below_size bl)); have n4_ := Aside0.mk (below_step bl hb); clear HO373; clear HO376; clear HO379; clear HB; have HO373 := n0_; have HO376 := n1_; have HO379 := n2_; have HO383 := n3_; have HB := n4_; clear n0_ n1_ n2_ n3_ n4_; (try clear hb); (try clear hb2); (try clear hk); (try clear hi); (try clear ho0)) | ((with_reducible refine gate_callee (f := 15) rfl ?_); refine goesL_ (some 29) rfl rfl Try.func15 (by kernel_rfl) rfl #[.string x0_6] rfl ml ?_; (with_reducible refine (archivistref10_Of.calls kj6 x0_6 t384 _ A17.out).mono ?_); rintro e w31 ⟨v385, rfl, ho0, hb⟩; refine ⟨_, rfl, ?_⟩; have n0_ := Aside0.mk (Kd.R_below (rz HO373.out) hb); have n1_ := Aside0.mk (Kd.R_below (rz HO376.out) hb); have n2_ := Aside0.mk (Kd.R_elder' (rz HO379.out) (Kd.R_base ho0) hb); have n3_ := Aside0.mk (Kd.R_below (rz HO383.out) hb); have n4_ := Aside0.mk (Kd.R_lower (Kd.R_new' ho0 (Kd.R_lt (rz HO379.out))) (below_size bl)); have n5_ := Aside0.mk (below_step bl hb); clear HO373; clear HO376; clear HO379; clear HO383; clear HB; have HO373 := n0_; have HO376 := n1_; have HO379 := n2_; have HO383 := n3_; have HO386 := n4_; have HB := n5_; clear n0_ n1_ n2_ n3_ n4_ n5_; (try clear hb); (try clear hb2); (try clear hk); (try clear hi); (try clear ho0); obtain ⟨Ao32, co32, eo32⟩ := Kd.R_slice HO383.out; subst eo32; obtain ⟨Ao33, co33, eo33⟩ := Kd.R_slice HO386.out; subst eo33) | ((with_reducible refine gate_callee (f := 11) rfl ?_); refine goesL_ (some 30) rfl rfl Try.func11 (by kernel_rfl) rfl #[.slice Ao32 t381.length co32, .slice Ao33 t384.length co33] rfl ml ?_; (with_reducible refine (archivistlaw10_samePairs.calls kj6 _ _ t381 _ _ t384 true _ ?side1 ?side2 ?side3 ?side4 A18.out).mono ?_); (case side1 => exact cz (Kd.R_reads' HO383.out).2.2); (case side2 => exact (Kd.R_reads' HO383.out).2.1); (case side3 => exact cz (Kd.R_reads' HO386.out).2.2); (case side4 => exact (Kd.R_reads' HO386.out).2.1); rintro e w' ⟨rfl, ⟨nd, rfl⟩⟩; refine ⟨_, rfl, ?_⟩; obtain ⟨Ao34, co34, eo34⟩ := Kd.R_slice HO373.out; subst eo34) | (go_at_call 16; (with_reducible refine (logfmt_Put.calls kj6 _ _ t371 t388 _ ?side1 ?side2 A22.out).mono ?_); (case side1 => exact cz (Kd.R_reads' HO373.out).2.2); (case side2 => exact (Kd.R_reads' HO373.out).2.1); rintro e w35 ⟨rfl, hb⟩; have n0_ := Aside0.mk (Kd.R_below (rz HO373.out) hb); have n1_ := Aside0.mk (Kd.R_below (rz HO376.out) hb); have n2_ := Aside0.mk (Kd.R_below (rz HO379.out) hb); have n3_ := Aside0.mk (Kd.R_below (rz HO383.out) hb); have n4_ := Aside0.mk (Kd.R_below (rz HO386.out) hb); have n5_ := Aside0.mk (below_step bl hb); clear HO373; clear HO376; clear HO379; clear HO383; clear HO386; clear HB; have HO373 := n0_; have HO376 := n1_; have HO379 := n2_; have HO383 := n3_; have HO386 := n4_; have HB := n5_; clear n0_ n1_ n2_ n3_ n4_ n5_; (try clear hb); (try clear hb2); (try clear hk); (try clear hi)) | (go_at_call 18; (with_reducible refine (archivistlaw10_refPairs.calls kj6 _ _ t371 t389 _ ?side1 ?side2 A23.out).mono ?_); (case side1 => exact cz (Kd.R_reads' HO373.out).2.2); (case side2 => exact (Kd.R_reads' HO373.out).2.1); rintro e w36 ⟨v390, rfl, ho0, hb⟩; have n0_ := Aside0.mk (Kd.R_below (rz HO373.out) hb); have n1_ := Aside0.mk (Kd.R_below (rz HO376.out) hb); have n2_ := Aside0.mk (Kd.R_elder' (rz HO379.out) (Kd.R_base ho0) hb); have n3_ := Aside0.mk (Kd.R_below (rz HO383.out) hb); have n4_ := Aside0.mk (Kd.R_elder' (rz HO386.out) (Kd.R_base ho0) hb); have n5_ := Aside0.mk (Kd.R_lower (Kd.R_new' (Kd.R_new' ho0 (Kd.R_lt (rz HO379.out))) (Kd.R_lt (rz HO386.out))) (below_size bl)); have n6_ := Aside0.mk (below_step bl hb); clear HO373; clear HO376; clear HO379; clear HO383; clear HO386; clear HB; have HO373 := n0_; have HO376 := n1_; have HO379 := n2_; have HO383 := n3_; have HO386 := n4_; have HO391 := n5_; have HB := n6_; clear n0_ n1_ n2_ n3_ n4_ n5_ n6_; (try clear hb); (try clear hb2); (try clear hk); (try clear hi); (try clear ho0); obtain ⟨Ao37, co37, eo37⟩ := Kd.R_slice HO391.out; subst eo37) | (go_at_call 17; (with_reducible refine (archivistref10_Put.calls kj6 _ _ t389 t392 _ ?side1 ?side2 A24.out).mono ?_); (case side1 => exact cz (Kd.R_reads' HO391.out).2.2); (case side2 => exact (Kd.R_reads' HO391.out).2.1); rintro e w38 ⟨rfl, hb⟩; have n0_ := Aside0.mk (Kd.R_below (rz HO373.out) hb); have n1_ := Aside0.mk (Kd.R_below (rz HO376.out) hb); have n2_ := Aside0.mk (Kd.R_below (rz HO379.out) hb); have n3_ := Aside0.mk (Kd.R_below (rz HO383.out) hb); have n4_ := Aside0.mk (Kd.R_below (rz HO386.out) hb); have n5_ := Aside0.mk (Kd.R_below (rz HO391.out) hb); have n6_ := Aside0.mk (below_step bl hb); clear HO373; clear HO376; clear HO379; clear HO383; clear HO386; clear HO391; clear HB; have HO373 := n0_; have HO376 := n1_; have HO379 := n2_; have HO383 := n3_; have HO386 := n4_; have HO391 := n5_; have HB := n6_; clear n0_ n1_ n2_ n3_ n4_ n5_ n6_; (try clear hb); (try clear hb2); (try clear hk); (try clear hi)))
       go_ret
       exact ⟨by first | rfl | (simp [errW_none, errW_some] <;> rfl) | (simp [*, errW_none, errW_some] <;> rfl), bl⟩
      ·replace c21 := Bool.eq_false_iff.mpr c21
       subst c21
       have H1 : (none) = some r := by rw [if_neg (show ¬ (false = true) by decide)] at H; exact H
       clear H
       have H := H1
       clear H1
       exact absurd H (by simp)
     ·replace c20 := Bool.eq_false_iff.mpr c20
      subst c20
      have H1 : (none) = some r := by rw [if_neg (show ¬ (false = true) by decide)] at H; exact H
      clear H
      have H := H1
      clear H1
      exact absurd H (by simp)
    ·exact absurd rfl c19
 ·replace c6 := Bool.eq_false_iff.mpr c6
  subst c6
  have H1 : (none) = some r := by rw [if_neg (show ¬ (false = true) by decide)] at H; exact H
  clear H
  have H := H1
  clear H1
  exact absurd H (by simp)

end Go.Proofs.Ytielpefbgdilaaa.X
