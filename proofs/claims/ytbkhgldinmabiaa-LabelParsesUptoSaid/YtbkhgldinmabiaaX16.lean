-- Laid by xprint.py, a program of this session's, out of the translation.
import Derived.Test.YtbkhgldinmabiaaX0
namespace Go.Proofs.Ytbkhgldinmabiaa.X
open Go.RowKit Go.Proofs.YtbkhgldinmabiaaW.PrintWords Go.Proofs.YtbkhgldinmabiaaW.PrintLast Go.Proofs.YtbkhgldinmabiaaW.PrintMore
attribute [local go_sem] max2_int min2_int max_two min_two max_three min_three max_four min_four x_isSome x_str_gtr x_str_leq x_str_geq   -- for this text's walks alone
set_option linter.unusedVariables false
set_option linter.unusedSimpArgs false

/-! ### archivistlaw06_refPairs: function 17 -/
def archivistlaw06_refPairs.l0 : Nat → List (S29) → List (S38) → Int → Option ((List (S38)))
 | 0, _, _, _ => none
 | k + 1, x0, x3, x4 => if x4 < (x0.length : Int) then (if 0 ≤ x4 then (if x3.length < 4398046511104 then (archivistlaw06_refPairs.l0 k x0 (x3 ++ [(⟨(rd_T29 x0 x4).f0, (rd_T29 x0 x4).f1⟩ : S38)]) (wrap64 (x4 + 1))) else (none)) else (none)) else (some x3)
def archivistlaw06_refPairs.f (k : Nat) (l0 : List (S29)) : Option ((List (S38))) := archivistlaw06_refPairs.l0 k l0 ([] : List (S38)) 0
theorem archivistlaw06_refPairs.mono_l : ∀ k, (∀ y0 y1 y2, LeO (archivistlaw06_refPairs.l0 k y0 y1 y2) (archivistlaw06_refPairs.l0 (k + 1) y0 y1 y2))
 | 0 => fun _ _ _ r h => by simp [archivistlaw06_refPairs.l0] at h
 | k + 1 => by
  have ih0 := archivistlaw06_refPairs.mono_l k
  ·intro y0 y1 y2
   unfold archivistlaw06_refPairs.l0
   repeat' first
   | (with_reducible exact ih0 _ _ _)
   | (with_reducible exact LeO.refl _)
   | (with_reducible exact LeO.none _)
   | (with_reducible refine LeO.ite ?_ ?_)
   | (with_reducible refine LeO.bind ?_ (fun _ => ?_))
   | exact ih0 _ _ _
   | exact LeO.none _
   | refine LeO.ite ?_ ?_
   | refine LeO.bind ?_ (fun _ => ?_)
theorem archivistlaw06_refPairs.mono : ∀ a0 k, LeO (archivistlaw06_refPairs.f k a0) (archivistlaw06_refPairs.f (k + 1) a0) := by
 intro a0 k
 have ih0 := archivistlaw06_refPairs.mono_l k
 unfold archivistlaw06_refPairs.f
 repeat' first
   | (with_reducible exact ih0 _ _ _)
   | (with_reducible exact LeO.refl _)
   | (with_reducible exact LeO.none _)
   | (with_reducible refine LeO.ite ?_ ?_)
   | (with_reducible refine LeO.bind ?_ (fun _ => ?_))
   | exact ih0 _ _ _
   | exact LeO.none _
   | refine LeO.ite ?_ ?_
   | refine LeO.bind ?_ (fun _ => ?_)
def archivistlaw06_refPairs.T5 : Bool × List (List Nat × List Nat) := (true, [([], []), ([], []), ([], []), ([1, 2], [1, 2]), ([3], [3]), ([4], [4]), ([], []), ([], []), ([6, 7], [6, 7]), ([8], [8]), ([9], [9]), ([5, 10], [5, 10]), ([11], [11]), ([0, 12], [0, 12]), ([13, 13, 0, 1, 2, 3, 4, 5, 6, 7, 8, 9, 10, 11, 12, 13], [0, 13])])
def archivistlaw06_refPairs.B5 : List Nat := [0, 0, 0, 6, 14, 30, 0, 0, 192, 448, 960, 2046, 4094, 8191, 16383]
theorem archivistlaw06_refPairs.tab5 : rtab .any (opsOf Try.f17 5) = archivistlaw06_refPairs.T5 := by kernel_rfl
theorem archivistlaw06_refPairs.bits5 : waitsOk archivistlaw06_refPairs.T5.2 archivistlaw06_refPairs.B5 = true := by kernel_rfl
set_option maxHeartbeats 8000000 in
set_option maxRecDepth 100000 in
theorem archivistlaw06_refPairs.calls (k : Nat) (A0 : Option Addr) (c0 : Nat) (l0 : List (S29)) (r : List (S38)) (w : World) (hr0 : Kd.C k29 w A0 l0.length l0) (hc0 : l0.length ≤ c0) (h : archivistlaw06_refPairs.f k l0 = some r) :
  Calls Try.prog 17 #[.slice A0 l0.length c0] w fun e w' => ∃ v0_ : Value, e = .returned (v0_) ∧ Kd.R k38 38 w' w.heap.size (fun _ => True) v0_ r ∧ Below w.heap.size w w' := by
 have hu38 := Try.underlying38
 have HR0 := Aside0.mk hr0
 have HC0 := Aside0.mk hc0
 clear hr0 hc0
 have HB := Aside0.mk (Below.refl w.heap.size w)
 have H : (archivistlaw06_refPairs.l0 k l0 ([] : List (S38)) 0) = some r := h
 clear h
 have H' := Aside0.mk H
 clear H
 go_enter Try.func17, Try.ntmps17
 go_wp2
 go_loopg [3, 4] k (fun kq v3 v4 w' => ∃ (x3_1 : List (S38)) (x4_1 : Int), v4 = .int .i64 x4_1 ∧ Aside0 (archivistlaw06_refPairs.l0 kq l0 x3_1 x4_1 = some r) ∧ Aside0 (kq ≤ k) ∧ Aside0 (Kd.R k38 38 w' w.heap.size (fun _ => True) v3 x3_1) ∧ Aside0 (Below w.heap.size w w'))
 case atStart => exact ⟨(([] : List (S38))), (0), rs, H', ⟨Nat.le_refl _⟩, ⟨by first | exact Kd.R_nil _ _ _ _ _ | exact Kd.N_nil _ _ _ _ _ | exact Kd.V_nil _ _ _ _ _ | exact Kd.Q_nil _ _ _ _ _ | exact Kd.S_nil _ _ _ _ _⟩, ⟨bl⟩⟩
 case round =>
  clear H'
  try clear c1
  obtain ⟨x3_1, x4_1, rfl, HA, HK1, HO_3, HB⟩ := hrel
  cases gk with
  | zero => exact absurd HA.out (by simp [archivistlaw06_refPairs.l0])
  | succ k1 =>
   have H := HA.out
   clear HA
   simp only [archivistlaw06_refPairs.l0] at H
   by_cases c2 : x4_1 < (l0.length : Int)
   ·rw [if_pos c2] at H
    have c2b0 := decide_eq_true c2
    clear c2
    by_cases c3 : 0 ≤ x4_1
    ·rw [if_pos c3] at H
     have c3b0 := decide_eq_true c3
     clear c3
     by_cases c4 : x3_1.length < 4398046511104
     ·rw [if_pos c4] at H
      have LMc4 := Aside0.mk c4
      clear c4
      obtain ⟨y308, hy308⟩ : ∃ y_ : List (S38), y_ = (x3_1 ++ [(⟨(rd_T29 l0 x4_1).f0, (rd_T29 l0 x4_1).f1⟩ : S38)]) := ⟨_, rfl⟩
      replace H : (archivistlaw06_refPairs.l0 k1 l0 y308 (wrap64 (x4_1 + 1))) = some r := by first | (rw [hy308]; with_reducible exact H) | (have H2_ := (Option.bind_some _ _).symm.trans H; rw [hy308]; with_reducible exact H2_) | (have H2_ := (Option.bind_some _ _).symm.trans H; with_reducible exact H2_) | with_reducible exact H | (rw [hy308]; exact H) | exact H
      have Ny308 := Aside0.mk hy308
      clear hy308
      have H' := Aside0.mk H
      clear H
      try go_wp2
      have n0_ := Aside0.mk (Kd.R_drew HO_3.out)
      have n1_ := Aside0.mk (below_drew1 HB.out)
      clear HO_3
      clear HB
      have HO_3 := n0_
      have HB := n1_
      clear n0_ n1_
      have p306 : 0 ≤ (x4_1 : Int) := od
      have q306 : x4_1 < (l0.length : Int) := od
      obtain ⟨ad306, e306, hx306_0, hx306_1⟩ := at_T29 HR0.out x4_1 p306 q306
      have hw306_1 := hx306_1
      have hw306_0 := hx306_0
      cases e306
      replace hx306_0 := cu HB.out hx306_0
      replace hx306_1 := cu HB.out hx306_1
      replace p306 := eq_true p306
      replace q306 := eq_true q306
      have p307 : 0 ≤ (x4_1 : Int) := od
      have q307 : x4_1 < (l0.length : Int) := od
      obtain ⟨ad307, e307, hx307_0, hx307_1⟩ := at_T29 HR0.out x4_1 p307 q307
      have hw307_1 := hx307_1
      have hw307_0 := hx307_0
      obtain rfl : ad306 = ad307 := (by injection e307)
      replace hx307_0 := cu HB.out hx307_0
      replace hx307_1 := cu HB.out hx307_1
      replace p307 := eq_true p307
      replace q307 := eq_true q307
      refine start_ (n := 15) (S := fun w' => w'.cell? (ad306.add ((x4_1).toNat * 2)) = some (.string ((rd_T29 l0 x4_1).f0)) ∧ w'.cell? ⟨(ad306.add ((x4_1).toNat * 2)).block, (ad306.add ((x4_1).toNat * 2)).off + 1, none⟩ = some (.string ((rd_T29 l0 x4_1).f1)) ∧ w'.cell? (ad306.add ((x4_1).toNat * 2)) = some (.string ((rd_T29 l0 x4_1).f0)) ∧ w'.cell? ⟨(ad306.add ((x4_1).toNat * 2)).block, (ad306.add ((x4_1).toNat * 2)).off + 1, none⟩ = some (.string ((rd_T29 l0 x4_1).f1))) (ds := []) #[N_,N_,N_,N_,N_,N_,N_,N_,N_,N_,N_,N_,N_,N_,N_] (by kernel_rfl) rfl rfl ⟨(cu HB.out hw306_0 :), (cu HB.out hw306_1 :), (cu HB.out hw307_0 :), (cu HB.out hw307_1 :)⟩ (fun hHeld => ?_); refine with_tabW archivistlaw06_refPairs.tab5 archivistlaw06_refPairs.bits5 (fun HT_ HW_ => ?_)
      generalize wr.drew = w5 at HO_3 HB hx306_0 hx306_1 hx307_0 hx307_1 hHeld ⊢
      refine pY 0 11 #[J_,N_,N_,N_,N_,N_,N_,N_,N_,N_,N_,N_,N_,N_,N_] HT_.out ?_
      refine pY 1 12 #[J_,J_,N_,N_,N_,N_,N_,N_,N_,N_,N_,N_,N_,N_,N_] HT_.out ?_
      refine pY 2 13 #[J_,J_,J_,N_,N_,N_,N_,N_,N_,N_,N_,N_,N_,N_,N_] HT_.out ?_
      refine pY 3 14 #[J_,J_,J_,J_,N_,N_,N_,N_,N_,N_,N_,N_,N_,N_,N_] HT_.out ?_
      refine pY 4 15 #[J_,J_,J_,J_,J_,N_,N_,N_,N_,N_,N_,N_,N_,N_,N_] HT_.out ?_
      refine pY 6 17 #[J_,J_,J_,J_,J_,N_,J_,N_,N_,N_,N_,N_,N_,N_,N_] HT_.out ?_
      refine pY 7 18 #[J_,J_,J_,J_,J_,N_,J_,J_,N_,N_,N_,N_,N_,N_,N_] HT_.out ?_
      refine pY 8 19 #[J_,J_,J_,J_,J_,N_,J_,J_,J_,N_,N_,N_,N_,N_,N_] HT_.out ?_
      refine pY 9 20 #[J_,J_,J_,J_,J_,N_,J_,J_,J_,J_,N_,N_,N_,N_,N_] HT_.out ?_
      refine take_ (i := 5) (N := some 16) (v := ?_) (a' := ?_) #[J_,J_,J_,J_,J_,J_,J_,J_,J_,J_,N_,N_,N_,N_,N_] rfl rfl (take_ofW HT_.out HW_.out (by kernel_rfl)) (fun _ _ _ h => h) (Or.inl ⟨by rfl, ?_⟩) hHeld ?_ ?_
      rotate_left
      ·rintro w' ⟨s0, s1, s2, s3⟩
       go_simp
       with_reducible rfl
      rotate_left
      ·simp only [Act.put, List.setIfInBounds_toArray, List.set_cons_zero, List.set_cons_succ, i64_w, i32_w]
       rfl
      refine take_ (i := 10) (N := some 21) (v := ?_) (a' := ?_) #[J_,J_,J_,J_,J_,J_,J_,J_,J_,J_,J_,N_,N_,N_,N_] rfl rfl (take_ofW HT_.out HW_.out (by kernel_rfl)) (fun _ _ _ h => h) (Or.inl ⟨by rfl, ?_⟩) hHeld ?_ ?_
      rotate_left
      ·rintro w' ⟨s0, s1, s2, s3⟩
       go_simp
       with_reducible rfl
      rotate_left
      ·simp only [Act.put, List.setIfInBounds_toArray, List.set_cons_zero, List.set_cons_succ, i64_w, i32_w]
       rfl
      refine pY 11 22 #[J_,J_,J_,J_,J_,J_,J_,J_,J_,J_,J_,J_,N_,N_,N_] HT_.out ?_
      refine one_ (i := 12) (N := some 23) #[J_,J_,J_,J_,J_,J_,J_,J_,J_,J_,J_,J_,J_,N_,N_] rfl rfl (one_of HT_.out (by kernel_rfl)) (by decide) (fun K hK => ?_)
      refine value_ (w1 := ?_) (v := ?_) (by rfl) rfl ?_ ?_
      rotate_left 2
      ·go_simp
       constructor
       ·rfl
       ·rfl
      refine hK.out _ _ ⟨(World.cell?_alloc_lt _ _ _ (World.block_lt_of_cell? _ _ ((cu HB.out hw306_0 :)))).trans ((cu HB.out hw306_0 :)), (World.cell?_alloc_lt _ _ _ (World.block_lt_of_cell? _ _ ((cu HB.out hw306_1 :)))).trans ((cu HB.out hw306_1 :)), (World.cell?_alloc_lt _ _ _ (World.block_lt_of_cell? _ _ ((cu HB.out hw307_0 :)))).trans ((cu HB.out hw307_0 :)), (World.cell?_alloc_lt _ _ _ (World.block_lt_of_cell? _ _ ((cu HB.out hw307_1 :)))).trans ((cu HB.out hw307_1 :))⟩ (fun hHeld => ?_)
      clear hK K
      refine norm_ (a' := ?_) ?_ ?_
      rotate_left
      ·show Act.put _ (some 23) _ = _
       simp only [Act.put, List.setIfInBounds_toArray, List.set_cons_zero, List.set_cons_succ, i64_w, i32_w]
       rfl
      refine one_ (i := 13) (N := some 24) #[J_,J_,J_,J_,J_,J_,J_,J_,J_,J_,J_,J_,J_,J_,N_] rfl rfl (one_of HT_.out (by kernel_rfl)) (by decide) (fun K hK => ?_)
      refine Kd.R_append_step k38 (w0 := w) w.heap.size (by rfl) (.tmp 11) (.tmp 23) 26 38 (.agg #[(.string ⟨#[]⟩), (.string ⟨#[]⟩)]) 32 rfl Try.underlying26 info38 rfl (by decide) (by omega) u3 x3_1 (⟨(rd_T29 l0 x4_1).f0, (rd_T29 l0 x4_1).f1⟩ : S38) [.string ((rd_T29 l0 x4_1).f0), .string ((rd_T29 l0 x4_1).f1)] (fun _ => True) (fun _ => False) rfl rfl ?aP (fun _ hk => hk.elim) ?aF ?aO ?aB ?aS ?aL ?_
      (case aP => exact k38_mkM _ _ _ (⟨(rd_T29 l0 x4_1).f0, (rd_T29 l0 x4_1).f1⟩ : S38))
      (case aB => exact bl)
      (case aF => exact (fun _ _ => trivial))
      (case aO => exact (rz HO_3.out))
      (case aS => exact (below_size bl))
      (case aL => have := LMc4.out; omega)
      intro v309 w6 ho hb hg hat
      rw [← Ny308.out] at ho
      have n0_ := Aside0.mk (hb)
      have n1_ := Aside0.mk (ho)
      clear HB
      clear HO_3
      have HB := n0_
      have HO310 := n1_
      clear n0_ n1_
      clear ho hb hg hat
      refine hK.out _ _ ⟨(cu HB.out hw306_0 :), (cu HB.out hw306_1 :), (cu HB.out hw307_0 :), (cu HB.out hw307_1 :)⟩ (fun hHeld => ?_)
      clear hK K
      refine norm_ (a' := ?_) ?_ ?_
      rotate_left
      ·show Act.put _ (some 24) _ = _
       simp only [Act.put, List.setIfInBounds_toArray, List.set_cons_zero, List.set_cons_succ, i64_w, i32_w]
       rfl
      refine pY 14 3 #[J_,J_,J_,J_,J_,J_,J_,J_,J_,J_,J_,J_,J_,J_,J_] HT_.out ?_
      refine done_ (done_of HT_.out (by kernel_rfl)) ?_
      try go_wp2
      go_roundg k1
      case measure => have := HK1.out; omega
      case rel => exact ⟨(y308), (wrap64 (x4_1 + 1)), rs, H', ⟨by have := HK1.out; omega⟩, ⟨rz HO310.out⟩, ⟨bl⟩⟩
     ·rw [if_neg c4] at H
      exact absurd H (by simp)
    ·rw [if_neg c3] at H
     exact absurd H (by simp)
   ·rw [if_neg c2] at H
    have c2b0 : decide (x4_1 < (l0.length : Int)) = false := decide_eq_false c2
    clear c2
    obtain rfl := Option.some.inj H
    go_wp2
    go_ret
    exact ⟨_, by first | rfl | (simp [errW_none, errW_some] <;> rfl) | (simp [*, errW_none, errW_some] <;> rfl), by (with_reducible repeat (first | apply Kd.R_alloc | apply Kd.R_drewN | apply Kd.R_drew)); exact HO_3.out, bl⟩

/-! ### archivistref06_Get: function 19 -/
def archivistref06_Get.l0 : Nat → List (S38) → ByteArray → Int → Option (ByteArray × Bool)
 | 0, _, _, _ => none
 | k + 1, x0, x1, x6 => if x6 < (x0.length : Int) then (if 0 ≤ x6 then (if ((rd_T38 x0 x6).f0).toList = x1.toList then (some ((rd_T38 x0 x6).f1, true)) else (archivistref06_Get.l0 k x0 x1 (wrap64 (x6 + 1)))) else (none)) else (some ((⟨#[]⟩ : ByteArray), false))
def archivistref06_Get.f (k : Nat) (l0 : List (S38)) (a1 : ByteArray) : Option (ByteArray × Bool) := archivistref06_Get.l0 k l0 a1 0
theorem archivistref06_Get.mono_l : ∀ k, (∀ y0 y1 y2, LeO (archivistref06_Get.l0 k y0 y1 y2) (archivistref06_Get.l0 (k + 1) y0 y1 y2))
 | 0 => fun _ _ _ r h => by simp [archivistref06_Get.l0] at h
 | k + 1 => by
  have ih0 := archivistref06_Get.mono_l k
  ·intro y0 y1 y2
   unfold archivistref06_Get.l0
   repeat' first
   | (with_reducible exact ih0 _ _ _)
   | (with_reducible exact LeO.refl _)
   | (with_reducible exact LeO.none _)
   | (with_reducible refine LeO.ite ?_ ?_)
   | (with_reducible refine LeO.bind ?_ (fun _ => ?_))
   | exact ih0 _ _ _
   | exact LeO.none _
   | refine LeO.ite ?_ ?_
   | refine LeO.bind ?_ (fun _ => ?_)
theorem archivistref06_Get.mono : ∀ a0 a1 k, LeO (archivistref06_Get.f k a0 a1) (archivistref06_Get.f (k + 1) a0 a1) := by
 intro a0 a1 k
 have ih0 := archivistref06_Get.mono_l k
 unfold archivistref06_Get.f
 repeat' first
   | (with_reducible exact ih0 _ _ _)
   | (with_reducible exact LeO.refl _)
   | (with_reducible exact LeO.none _)
   | (with_reducible refine LeO.ite ?_ ?_)
   | (with_reducible refine LeO.bind ?_ (fun _ => ?_))
   | exact ih0 _ _ _
   | exact LeO.none _
   | refine LeO.ite ?_ ?_
   | refine LeO.bind ?_ (fun _ => ?_)
set_option maxHeartbeats 8000000 in
set_option maxRecDepth 100000 in
theorem archivistref06_Get.calls (k : Nat) (A0 : Option Addr) (c0 : Nat) (l0 : List (S38)) (a1 : ByteArray) (r1 : ByteArray) (r2 : Bool) (w : World) (hr0 : Kd.C k38 w A0 l0.length l0) (hc0 : l0.length ≤ c0) (h : archivistref06_Get.f k l0 a1 = some (r1, r2)) :
  Calls Try.prog 19 #[.slice A0 l0.length c0, .string a1] w fun e w' => e = .returned (.tuple #[.string r1, .bool r2]) ∧ Drawn0 w w' := by
 have HR0 := Aside0.mk hr0
 have HC0 := Aside0.mk hc0
 clear hr0 hc0
 have H : (archivistref06_Get.l0 k l0 a1 0) = some (r1, r2) := h
 clear h
 have H' := Aside0.mk H
 clear H
 go_enter Try.func19, Try.ntmps19
 go_wp2
 go_loopg [6] k (fun kq v6 w' => ∃ (x6_1 : Int), v6 = .int .i64 x6_1 ∧ Aside0 (archivistref06_Get.l0 kq l0 a1 x6_1 = some (r1, r2)) ∧ Aside0 (kq ≤ k) ∧ Drawn0 w w')
 case atStart => exact ⟨(0), rs, H', ⟨Nat.le_refl _⟩, by repeat (first | exact Drawn0.refl _ | apply Drawn0.step)⟩
 case round =>
  clear H'
  try clear c1
  try clear p2
  obtain ⟨x6_1, rfl, HA, HK1, ⟨m1, rfl⟩⟩ := hrel
  cases gk with
  | zero => exact absurd HA.out (by simp [archivistref06_Get.l0])
  | succ k1 =>
   have H := HA.out
   clear HA
   simp only [archivistref06_Get.l0] at H
   by_cases c3 : x6_1 < (l0.length : Int)
   ·rw [if_pos c3] at H
    have c3b0 := decide_eq_true c3
    clear c3
    by_cases c4 : 0 ≤ x6_1
    ·rw [if_pos c4] at H
     have c4b0 := decide_eq_true c4
     clear c4
     by_cases c5 : ((rd_T38 l0 x6_1).f0).toList = a1.toList
     ·rw [if_pos c5] at H
      have c5b0 : (((rd_T38 l0 x6_1).f0).toList == a1.toList) = true := beq_iff_eq.mpr c5
      have c5b1 : (((rd_T38 l0 x6_1).f0).toList != a1.toList) = false := bne_eq_false_iff_eq.mpr c5
      clear c5
      simp only [Option.some.injEq, Prod.mk.injEq] at H
      obtain ⟨rfl, rfl⟩ := H
      have p311 : 0 ≤ (x6_1 : Int) := od
      have q311 : x6_1 < (l0.length : Int) := od
      obtain ⟨ad311, e311, hx311_0, hx311_1⟩ := at_T38 HR0.out x6_1 p311 q311
      cases e311
      replace p311 := eq_true p311
      replace q311 := eq_true q311
      have p312 : 0 ≤ (x6_1 : Int) := od
      have q312 : x6_1 < (l0.length : Int) := od
      obtain ⟨ad312, e312, hx312_0, hx312_1⟩ := at_T38 HR0.out x6_1 p312 q312
      obtain rfl : ad311 = ad312 := (by injection e312)
      replace p312 := eq_true p312
      replace q312 := eq_true q312
      go_wp2
      go_ret2
      exact ⟨rs, dr⟩
     ·rw [if_neg c5] at H
      have c5b0 : (((rd_T38 l0 x6_1).f0).toList == a1.toList) = false := beq_eq_false_iff_ne.mpr c5
      have c5b1 : (((rd_T38 l0 x6_1).f0).toList != a1.toList) = true := bne_iff_ne.mpr c5
      have H' := Aside0.mk H
      clear H
      have p311 : 0 ≤ (x6_1 : Int) := od
      have q311 : x6_1 < (l0.length : Int) := od
      obtain ⟨ad311, e311, hx311_0, hx311_1⟩ := at_T38 HR0.out x6_1 p311 q311
      cases e311
      replace p311 := eq_true p311
      replace q311 := eq_true q311
      go_wp2
      go_roundg k1
      case measure => have := HK1.out; omega
      case rel => exact ⟨(wrap64 (x6_1 + 1)), rs, H', ⟨by have := HK1.out; omega⟩, by repeat (first | exact Drawn0.refl _ | apply Drawn0.step)⟩
    ·rw [if_neg c4] at H
     exact absurd H (by simp)
   ·rw [if_neg c3] at H
    have c3b0 : decide (x6_1 < (l0.length : Int)) = false := decide_eq_false c3
    clear c3
    simp only [Option.some.injEq, Prod.mk.injEq] at H
    obtain ⟨rfl, rfl⟩ := H
    go_wp2
    go_ret2
    exact ⟨rs, dr⟩

/-! ### archivistlaw06_samePairs: function 20 -/
def archivistlaw06_samePairs.l0 : Nat → List (S29) → List (S38) → Int → Option (Bool)
 | 0, _, _, _ => none
 | k + 1, x0, x1, x5 => if x5 < (x0.length : Int) then (if 0 ≤ x5 then (if x5 < (x1.length : Int) then (if ((rd_T29 x0 x5).f0).toList = ((rd_T38 x1 x5).f0).toList then (if ((rd_T29 x0 x5).f1).toList = ((rd_T38 x1 x5).f1).toList then (archivistlaw06_samePairs.l0 k x0 x1 (wrap64 (x5 + 1))) else (some false)) else (some false)) else (none)) else (none)) else (some true)
def archivistlaw06_samePairs.f (k : Nat) (l0 : List (S29)) (l1 : List (S38)) : Option (Bool) := if (l0.length : Int) = (l1.length : Int) then (archivistlaw06_samePairs.l0 k l0 l1 0) else (some false)
theorem archivistlaw06_samePairs.mono_l : ∀ k, (∀ y0 y1 y2, LeO (archivistlaw06_samePairs.l0 k y0 y1 y2) (archivistlaw06_samePairs.l0 (k + 1) y0 y1 y2))
 | 0 => fun _ _ _ r h => by simp [archivistlaw06_samePairs.l0] at h
 | k + 1 => by
  have ih0 := archivistlaw06_samePairs.mono_l k
  ·intro y0 y1 y2
   unfold archivistlaw06_samePairs.l0
   repeat' first
   | (with_reducible exact ih0 _ _ _)
   | (with_reducible exact LeO.refl _)
   | (with_reducible exact LeO.none _)
   | (with_reducible refine LeO.ite ?_ ?_)
   | (with_reducible refine LeO.bind ?_ (fun _ => ?_))
   | exact ih0 _ _ _
   | exact LeO.none _
   | refine LeO.ite ?_ ?_
   | refine LeO.bind ?_ (fun _ => ?_)
theorem archivistlaw06_samePairs.mono : ∀ a0 a1 k, LeO (archivistlaw06_samePairs.f k a0 a1) (archivistlaw06_samePairs.f (k + 1) a0 a1) := by
 intro a0 a1 k
 have ih0 := archivistlaw06_samePairs.mono_l k
 unfold archivistlaw06_samePairs.f
 repeat' first
   | (with_reducible exact ih0 _ _ _)
   | (with_reducible exact LeO.refl _)
   | (with_reducible exact LeO.none _)
   | (with_reducible refine LeO.ite ?_ ?_)
   | (with_reducible refine LeO.bind ?_ (fun _ => ?_))
   | exact ih0 _ _ _
   | exact LeO.none _
   | refine LeO.ite ?_ ?_
   | refine LeO.bind ?_ (fun _ => ?_)
set_option maxHeartbeats 8000000 in
set_option maxRecDepth 100000 in
theorem archivistlaw06_samePairs.calls (k : Nat) (A0 : Option Addr) (c0 : Nat) (l0 : List (S29)) (A1 : Option Addr) (c1 : Nat) (l1 : List (S38)) (r : Bool) (w : World) (hr0 : Kd.C k29 w A0 l0.length l0) (hc0 : l0.length ≤ c0) (hr1 : Kd.C k38 w A1 l1.length l1) (hc1 : l1.length ≤ c1) (h : archivistlaw06_samePairs.f k l0 l1 = some r) :
  Calls Try.prog 20 #[.slice A0 l0.length c0, .slice A1 l1.length c1] w fun e w' => e = .returned (.bool r) ∧ Drawn0 w w' := by
 have HR0 := Aside0.mk hr0
 have HC0 := Aside0.mk hc0
 clear hr0 hc0
 have HR1 := Aside0.mk hr1
 have HC1 := Aside0.mk hc1
 clear hr1 hc1
 have H : (if (l0.length : Int) = (l1.length : Int) then (archivistlaw06_samePairs.l0 k l0 l1 0) else (some false)) = some r := h
 clear h
 by_cases c3 : (l0.length : Int) = (l1.length : Int)
 ·rw [if_pos c3] at H
  have c3b0 : ((l0.length : Int) == (l1.length : Int)) = true := beq_iff_eq.mpr c3
  have c3b1 : ((l0.length : Int) != (l1.length : Int)) = false := bne_eq_false_iff_eq.mpr c3
  have c3b2 : (l0.length == l1.length) = true := by first | simpa using c3 | (simp at c3 ⊢; omega)
  clear c3
  have H' := Aside0.mk H
  clear H
  go_enter Try.func20, Try.ntmps20
  go_wp2
  repeat (go_quiet (fail); try go_wp2)
  go_loopg [5] k (fun kq v5 w' => ∃ (x5_1 : Int), v5 = .int .i64 x5_1 ∧ Aside0 (archivistlaw06_samePairs.l0 kq l0 l1 x5_1 = some r) ∧ Aside0 (kq ≤ k) ∧ Drawn0 w w')
  case atStart => exact ⟨(0), rs, H', ⟨Nat.le_refl _⟩, by repeat (first | exact Drawn0.refl _ | apply Drawn0.step)⟩
  case round =>
   clear H'
   try clear c1
   try clear c2
   try clear p2
   try clear c3
   try clear c3b0
   try clear c3b1
   try clear c3b2
   obtain ⟨x5_1, rfl, HA, HK1, ⟨m1, rfl⟩⟩ := hrel
   cases gk with
   | zero => exact absurd HA.out (by simp [archivistlaw06_samePairs.l0])
   | succ k1 =>
    have H := HA.out
    clear HA
    simp only [archivistlaw06_samePairs.l0] at H
    by_cases c4 : x5_1 < (l0.length : Int)
    ·rw [if_pos c4] at H
     have c4b0 := decide_eq_true c4
     clear c4
     by_cases c5 : 0 ≤ x5_1
     ·rw [if_pos c5] at H
      have c5b0 := decide_eq_true c5
      clear c5
      by_cases c6 : x5_1 < (l1.length : Int)
      ·rw [if_pos c6] at H
       have c6b0 := decide_eq_true c6
       clear c6
       by_cases c7 : ((rd_T29 l0 x5_1).f0).toList = ((rd_T38 l1 x5_1).f0).toList
       ·rw [if_pos c7] at H
        have c7b0 : (((rd_T29 l0 x5_1).f0).toList == ((rd_T38 l1 x5_1).f0).toList) = true := beq_iff_eq.mpr c7
        have c7b1 : (((rd_T29 l0 x5_1).f0).toList != ((rd_T38 l1 x5_1).f0).toList) = false := bne_eq_false_iff_eq.mpr c7
        clear c7
        by_cases c8 : ((rd_T29 l0 x5_1).f1).toList = ((rd_T38 l1 x5_1).f1).toList
        ·rw [if_pos c8] at H
         have c8b0 : (((rd_T29 l0 x5_1).f1).toList == ((rd_T38 l1 x5_1).f1).toList) = true := beq_iff_eq.mpr c8
         have c8b1 : (((rd_T29 l0 x5_1).f1).toList != ((rd_T38 l1 x5_1).f1).toList) = false := bne_eq_false_iff_eq.mpr c8
         clear c8
         have H' := Aside0.mk H
         clear H
         have p313 : 0 ≤ (x5_1 : Int) := od
         have q313 : x5_1 < (l0.length : Int) := od
         obtain ⟨ad313, e313, hx313_0, hx313_1⟩ := at_T29 HR0.out x5_1 p313 q313
         cases e313
         replace p313 := eq_true p313
         replace q313 := eq_true q313
         have p314 : 0 ≤ (x5_1 : Int) := od
         have q314 : x5_1 < (l1.length : Int) := od
         obtain ⟨ad314, e314, hx314_0, hx314_1⟩ := at_T38 HR1.out x5_1 p314 q314
         cases e314
         replace p314 := eq_true p314
         replace q314 := eq_true q314
         have p315 : 0 ≤ (x5_1 : Int) := od
         have q315 : x5_1 < (l0.length : Int) := od
         obtain ⟨ad315, e315, hx315_0, hx315_1⟩ := at_T29 HR0.out x5_1 p315 q315
         obtain rfl : ad313 = ad315 := (by injection e315)
         replace p315 := eq_true p315
         replace q315 := eq_true q315
         have p316 : 0 ≤ (x5_1 : Int) := od
         have q316 : x5_1 < (l1.length : Int) := od
         obtain ⟨ad316, e316, hx316_0, hx316_1⟩ := at_T38 HR1.out x5_1 p316 q316
         obtain rfl : ad314 = ad316 := (by injection e316)
         replace p316 := eq_true p316
         replace q316 := eq_true q316
         go_wp2
         repeat (go_quiet (fail); try go_wp2)
         go_roundg k1
         case measure => have := HK1.out; omega
         case rel => exact ⟨(wrap64 (x5_1 + 1)), rs, H', ⟨by have := HK1.out; omega⟩, by repeat (first | exact Drawn0.refl _ | apply Drawn0.step)⟩
        ·rw [if_neg c8] at H
         have c8b0 : (((rd_T29 l0 x5_1).f1).toList == ((rd_T38 l1 x5_1).f1).toList) = false := beq_eq_false_iff_ne.mpr c8
         have c8b1 : (((rd_T29 l0 x5_1).f1).toList != ((rd_T38 l1 x5_1).f1).toList) = true := bne_iff_ne.mpr c8
         obtain rfl := Option.some.inj H
         have p313 : 0 ≤ (x5_1 : Int) := od
         have q313 : x5_1 < (l0.length : Int) := od
         obtain ⟨ad313, e313, hx313_0, hx313_1⟩ := at_T29 HR0.out x5_1 p313 q313
         cases e313
         replace p313 := eq_true p313
         replace q313 := eq_true q313
         have p314 : 0 ≤ (x5_1 : Int) := od
         have q314 : x5_1 < (l1.length : Int) := od
         obtain ⟨ad314, e314, hx314_0, hx314_1⟩ := at_T38 HR1.out x5_1 p314 q314
         cases e314
         replace p314 := eq_true p314
         replace q314 := eq_true q314
         have p315 : 0 ≤ (x5_1 : Int) := od
         have q315 : x5_1 < (l0.length : Int) := od
         obtain ⟨ad315, e315, hx315_0, hx315_1⟩ := at_T29 HR0.out x5_1 p315 q315
         obtain rfl : ad313 = ad315 := (by injection e315)
         replace p315 := eq_true p315
         replace q315 := eq_true q315
         have p316 : 0 ≤ (x5_1 : Int) := od
         have q316 : x5_1 < (l1.length : Int) := od
         obtain ⟨ad316, e316, hx316_0, hx316_1⟩ := at_T38 HR1.out x5_1 p316 q316
         obtain rfl : ad314 = ad316 := (by injection e316)
         replace p316 := eq_true p316
         replace q316 := eq_true q316
         go_wp2
         repeat (go_quiet (fail); try go_wp2)
         go_ret
         exact ⟨rs, dr⟩
       ·rw [if_neg c7] at H
        have c7b0 : (((rd_T29 l0 x5_1).f0).toList == ((rd_T38 l1 x5_1).f0).toList) = false := beq_eq_false_iff_ne.mpr c7
        have c7b1 : (((rd_T29 l0 x5_1).f0).toList != ((rd_T38 l1 x5_1).f0).toList) = true := bne_iff_ne.mpr c7
        obtain rfl := Option.some.inj H
        have p313 : 0 ≤ (x5_1 : Int) := od
        have q313 : x5_1 < (l0.length : Int) := od
        obtain ⟨ad313, e313, hx313_0, hx313_1⟩ := at_T29 HR0.out x5_1 p313 q313
        cases e313
        replace p313 := eq_true p313
        replace q313 := eq_true q313
        have p314 : 0 ≤ (x5_1 : Int) := od
        have q314 : x5_1 < (l1.length : Int) := od
        obtain ⟨ad314, e314, hx314_0, hx314_1⟩ := at_T38 HR1.out x5_1 p314 q314
        cases e314
        replace p314 := eq_true p314
        replace q314 := eq_true q314
        go_wp2
        repeat (go_quiet (fail); try go_wp2)
        go_ret
        exact ⟨rs, dr⟩
      ·rw [if_neg c6] at H
       exact absurd H (by simp)
     ·rw [if_neg c5] at H
      exact absurd H (by simp)
    ·rw [if_neg c4] at H
     have c4b0 : decide (x5_1 < (l0.length : Int)) = false := decide_eq_false c4
     clear c4
     obtain rfl := Option.some.inj H
     go_wp2
     repeat (go_quiet (fail); try go_wp2)
     go_ret
     exact ⟨rs, dr⟩
 ·rw [if_neg c3] at H
  have c3b0 : ((l0.length : Int) == (l1.length : Int)) = false := beq_eq_false_iff_ne.mpr c3
  have c3b1 : ((l0.length : Int) != (l1.length : Int)) = true := bne_iff_ne.mpr c3
  have c3b2 : (l0.length == l1.length) = false := by first | simpa using c3 | (simp at c3 ⊢; omega)
  obtain rfl := Option.some.inj H
  go_enter Try.func20, Try.ntmps20
  go_wp2
  repeat (go_quiet (fail); try go_wp2)
  go_ret
  exact ⟨rs, dr⟩

end Go.Proofs.Ytbkhgldinmabiaa.X
