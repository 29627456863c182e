-- Laid by xprint.py, a program of this session's, out of the translation.
import Derived.Test.YtaehlbbjbeibfaaX0
import Derived.Test.YtaehlbbjbeibfaaX6
namespace Go.Proofs.Ytaehlbbjbeibfaa.X
open Go.RowKit Go.Proofs.YtaehlbbjbeibfaaW.PrintWords Go.Proofs.YtaehlbbjbeibfaaW.PrintLast Go.Proofs.YtaehlbbjbeibfaaW.PrintMore
attribute [local go_sem] max2_int min2_int max_two min_two max_three min_three max_four min_four x_isSome x_str_gtr x_str_leq x_str_geq   -- for this text's walks alone
set_option linter.unusedVariables false
set_option linter.unusedSimpArgs false

/-! ### archivistref16_First: function 15 -/
def archivistref16_First.l0 (k : Nat) (a0 : Bool) (l : List S48) : Nat → S48 → Nat → Option S48
 | 0, x, _ => some x
 | d + 1, x, i => (archivistref13_Ahead.f k (rd_T48 l i).f0 (rd_T48 l i).f1 (rd_T48 l i).f2 x.f0 x.f1 x.f2 a0).bind fun b => archivistref16_First.l0 k a0 l d (if b = true then rd_T48 l i else x) (i + 1)
def archivistref16_First.f (k : Nat) (a0 : Bool) (l1 : List S48) : Option (Int × List S108 × ByteArray × Bool) := if l1.length = 0 then some (0, [], ⟨#[]⟩, false) else (archivistref16_First.l0 k a0 l1 (l1.length - 1) (rd_T48 l1 0) 1).bind fun x => some (x.f0, x.f1, x.f2, true)
theorem archivistref16_First.mono_l (k : Nat) (a0 : Bool) (l : List S48) : ∀ d x i, LeO (archivistref16_First.l0 k a0 l d x i) (archivistref16_First.l0 (k + 1) a0 l d x i)
 | 0, _, _ => LeO.refl _
 | d + 1, x, i => by
  unfold archivistref16_First.l0
  exact LeO.bind (archivistref13_Ahead.mono _ _ _ _ _ _ _ _) (fun b => archivistref16_First.mono_l k a0 l d _ _)
theorem archivistref16_First.mono : ∀ a0 l1 k, LeO (archivistref16_First.f k a0 l1) (archivistref16_First.f (k + 1) a0 l1) := fun a0 l1 k => by
 unfold archivistref16_First.f
 exact LeO.ite (LeO.refl _) (LeO.bind (archivistref16_First.mono_l _ _ _ _ _ _) (fun _ => LeO.refl _))
section
variable {P : Program} {md : Region.Mode} {ops : Array Oper} {Q : Exit → Act → World → Prop} {S : World → Prop} {ds : List Nat} {T : Bool × List (List Nat × List Nat)}
theorem archivistref16_First.pY (i : Nat) (N : Tmp) (l' : Array Bool) (hT : rtab md ops = T) {oi : Oper} {v : Value} {fuel : Nat} {l : Array Bool} {a a' : Act} {w : World} (h : wpAnyLast P md ops Q S ds fuel l' a' w)
  (hi : ops[i]? = some oi := by rfl) (hN : oi.dst = some N := by rfl) (hc : anyT T l.toList l'.toList i = true := by kernel_rfl) (hQ : ∀ c a w, Q (.panic c) (a.put oi.dst v) w → Q (.panic c) a w := by exact fun _ _ _ h => h)
  (hw : Region.wanted oi (yielded ops a.tmps) = true := by rfl) (hv : ∀ w, (execOp a.eval oi).run P w = .ok (.value v) w := by intro w'; go_simp; with_reducible rfl)
  (ha : a.put (some N) v = a' := by simp only [Act.put, List.setIfInBounds_toArray, List.set_cons_zero, List.set_cons_succ, i64_w, i32_w]; rfl) : wpAnyLast P md ops Q S ds (fuel + 1) l a w :=
 pure_ l' hi hN (any_of hT hc) hQ (Or.inl ⟨hw, hv⟩) ha h
end
def archivistref16_First.T7 : Bool × List (List Nat × List Nat) := (true, [([], []), ([], []), ([0, 1], [0, 1]), ([2], [2]), ([], []), ([], []), ([3, 4, 5], [3, 4, 5])])
def archivistref16_First.B7 : List Nat := [0, 0, 3, 7, 0, 0, 63]
theorem archivistref16_First.tab7 : rtab .any (opsOf Try.f15 7) = archivistref16_First.T7 := by kernel_rfl
theorem archivistref16_First.bits7 : waitsOk archivistref16_First.T7.2 archivistref16_First.B7 = true := by kernel_rfl
theorem archivistref16_First.keep {W W1 : World} {a b : Addr} {v0 v1 v2 u0 u1 u2 : Value} (h : W.cell? a = some v0 ∧ W.cell? ⟨a.block, a.off + 1, none⟩ = some v1 ∧ W.cell? ⟨a.block, a.off + 2, none⟩ = some v2 ∧ W.cell? b = some u0 ∧ W.cell? ⟨b.block, b.off + 1, none⟩ = some u1 ∧ W.cell? ⟨b.block, b.off + 2, none⟩ = some u2) (hb : Below W.heap.size W W1) :
  W1.cell? a = some v0 ∧ W1.cell? ⟨a.block, a.off + 1, none⟩ = some v1 ∧ W1.cell? ⟨a.block, a.off + 2, none⟩ = some v2 ∧ W1.cell? b = some u0 ∧ W1.cell? ⟨b.block, b.off + 1, none⟩ = some u1 ∧ W1.cell? ⟨b.block, b.off + 2, none⟩ = some u2 := by
 have f : ∀ {p : Addr} {x : Value}, W.cell? p = some x → W1.cell? p = some x := fun hx => (hb.cell (World.block_lt_of_cell? W _ hx)).trans hx
 exact ⟨f h.1, f h.2.1, f h.2.2.1, f h.2.2.2.1, f h.2.2.2.2.1, f h.2.2.2.2.2⟩
/-- an element: its cells, what its labels are -/
theorem archivistref16_First.at {w : World} {P1 : Nat → Prop} {A1 : Option Addr} {l1 : List S48} (hF : Kd.F k48 w P1 A1 l1.length l1) (i : Nat) (hi : i < l1.length) : ∃ ad A c, A1 = some ad ∧ w.cell? (ad.add (i * 3)) = some (.int .i64 (rd_T48 l1 i).f0) ∧ w.cell? ⟨(ad.add (i * 3)).block, (ad.add (i * 3)).off + 1, none⟩ = some (.slice A (rd_T48 l1 i).f1.length c) ∧ w.cell? ⟨(ad.add (i * 3)).block, (ad.add (i * 3)).off + 2, none⟩ = some (.string (rd_T48 l1 i).f2) ∧ (rd_T48 l1 i).f1.length ≤ c ∧ Kd.F k108 w P1 A (rd_T48 l1 i).f1.length (rd_T48 l1 i).f1 := by
 obtain ⟨ad, cs, rfl, hcl, hK, hcc, _⟩ := Kd.F_get hF z48 (i : Int) (by omega) (by omega)
 have e : l1.getD (i : Int).toNat z48 = rd_T48 l1 i := rfl
 rw [e] at hK
 rw [Int.toNat_natCast] at hcc
 obtain ⟨A, c, rfl, h1, h2⟩ := k48_openF hK
 have hc : ∀ j u, ([.int .i64 (rd_T48 l1 i).f0, .slice A (rd_T48 l1 i).f1.length c, .string (rd_T48 l1 i).f2] : List Value)[j]? = some u → w.cell? (ad.add (i * 3 + j)) = some u := hcc
 exact ⟨ad, A, c, rfl, hc 0 _ rfl, by rw [← add_field _ _ 1 (by omega)]; exact hc 1 _ rfl, by rw [← add_field _ _ 2 (by omega)]; exact hc 2 _ rfl, h1, h2⟩
set_option maxHeartbeats 4000000 in
set_option maxRecDepth 100000 in
theorem archivistref16_First.calls (k : Nat) (a0 : Bool) (P1_ : Nat → Prop) (A1 : Option Addr) (c1 : Nat) (l1 : List S48) (r1 : Int) (r2 : List S108) (r3 : ByteArray) (r4 : Bool) (w : World) (hs1 : Kd.V k48 48 w w.heap.size (fun k_ => P1_ k_) (.slice A1 l1.length c1) l1) (h : archivistref16_First.f k a0 l1 = some (r1, r2, r3, r4)) :
  Calls Try.prog 15 #[.bool a0, .slice A1 l1.length c1] w fun e w' => ∃ v1_ : Value, e = .returned (.tuple #[.agg #[.int .i64 r1, v1_, .string r3], .bool r4]) ∧ Kd.V k108 108 w' w.heap.size (fun k_ => (P1_ k_ ∨ w.heap.size ≤ k_)) v1_ r2 ∧ Below w.heap.size w w' := by
 obtain ⟨_, hc1, hF⟩ := Kd.V_at hs1; have hmax := Kd.F_max hF; have HB := Aside0.mk (below_alloc (Below.refl w.heap.size w) (.cells #[.int .i64 0, .slice none 0 0, .string ⟨#[]⟩] 48)); have HK := Aside0.mk (blk_new w (.cells #[.int .i64 0, .slice none 0 0, .string ⟨#[]⟩] 48)); unfold archivistref16_First.f at h; obtain ⟨n, hn⟩ : ∃ n, l1.length = n := ⟨_, rfl⟩; have HF := Aside0.mk hF; rw [hn] at h hmax ⊢; by_cases h0 : n = 0
 ·rw [if_pos h0] at h; subst h0; injection h with h; simp only [Prod.mk.injEq] at h; obtain ⟨rfl, rfl, rfl, rfl⟩ := h; clear hs1 hc1 hF hn; go_enter Try.func15, Try.ntmps15
  go_upto_region 1 with (fail)
  generalize hgb : w.heap.size = gb at HK ⊢; generalize w.alloc (.cells #[.int .i64 0, .slice none 0 0, .string ⟨#[]⟩] 48) = w1 at HB HK ⊢; have HGB := Aside0.mk hgb; clear hgb; have k0 : w1.cell? ⟨gb, 0, none⟩ = some (.int .i64 0) := (blk_cell HK.out 0).trans rfl; have k1 : w1.cell? ⟨gb, 1, none⟩ = some (.slice none 0 0) := (blk_cell HK.out 1).trans rfl; have k2 : w1.cell? ⟨gb, 2, none⟩ = some (.string ⟨#[]⟩) := (blk_cell HK.out 2).trans rfl; have kf0 : w1.frozen? ⟨gb, 0, none⟩ = false := blk_frozen HK.out 0; have kf1 : w1.frozen? ⟨gb, 1, none⟩ = false := blk_frozen HK.out 1; have kf2 : w1.frozen? ⟨gb, 2, none⟩ = false := blk_frozen HK.out 2; go_wp2
  refine bodyPost_ret (results_list (rs := [.cell 4 48, .tmp 5]) rfl (by simp) (.cell gb 48 #[.int .i64 0, .slice none 0 0, .string ⟨#[]⟩] (0, 0) _ rfl (blk_put (blk_put (blk_put HK.out 0 _ rfl) 1 _ rfl) 2 _ rfl) Try.underlying48 rfl (by kernel_rfl) (.tmp .nil))) rfl ?_; have hle := Nat.le_of_eq HGB.out; exact ⟨.slice none 0 0, rfl, Kd.V_nil _ _ _ _ _, ((HB.out.setCell (p := ⟨gb, 0, none⟩) hle _).setCell (p := ⟨gb, 1, none⟩) hle _).setCell (p := ⟨gb, 2, none⟩) hle _⟩
 ·rw [if_neg h0] at h; obtain ⟨r, hr, h⟩ := Option.bind_eq_some_iff.mp h; injection h with h; simp only [Prod.mk.injEq] at h; obtain ⟨rfl, rfl, rfl, rfl⟩ := h; have HR := Aside0.mk hr; obtain ⟨ad, Ax, cx, rfl, x0, x1, x2, hx1, hx2⟩ := archivistref16_First.at hF 0 (by omega); have HX := Aside0.mk (And.intro hx1 hx2); have q1 : 0 < n := by omega
  have q1i : (0 : Int) < (n : Int) := by omega
  have q2 : ((n : Int) == 0) = false := beq_eq_false_iff_ne.mpr (by omega); rw [Nat.zero_mul, Addr.add_zero'] at x0 x1 x2; have e0 : rd_T48 l1 ((0 : Nat) : Int) = rd_T48 l1 0 := rfl; rw [e0] at x0 x1 x2 HX; obtain ⟨x, hx⟩ : ∃ x, rd_T48 l1 0 = x := ⟨_, rfl⟩; rw [hx] at x0 x1 x2 HX HR; have X0 := Aside0.mk x0; have X1 := Aside0.mk x1; have X2 := Aside0.mk x2; have HN := Aside0.mk hn; have HM := Aside0.mk hmax; clear hs1 hc1 hF hn e0 hx hx1 hx2 x0 x1 x2 hr h0 hmax; go_enter Try.func15, Try.ntmps15
  go_upto_region 1 with (fail)
  generalize hgb : w.heap.size = gb at HK ⊢; generalize w.alloc (.cells #[.int .i64 0, .slice none 0 0, .string ⟨#[]⟩] 48) = w1 at HB HK ⊢; have HGB := Aside0.mk hgb; clear hgb; have x0 : w1.cell? ad = some (.int .i64 x.f0) := (HB.out.cell (World.block_lt_of_cell? w _ X0.out)).trans X0.out; have x1 : w1.cell? ⟨ad.block, ad.off + 1, none⟩ = some (.slice Ax x.f1.length cx) := (HB.out.cell (World.block_lt_of_cell? w _ X1.out)).trans X1.out; have x2 : w1.cell? ⟨ad.block, ad.off + 2, none⟩ = some (.string x.f2) := (HB.out.cell (World.block_lt_of_cell? w _ X2.out)).trans X2.out; go_upto_region 4 with (fail)
  have HG6 := Aside0.mk (blk_new w1 (.cells #[.int .i64 x.f0, .slice Ax x.f1.length cx, .string x.f2] 48)); have HG4 := Aside0.mk (blk_alloc HK.out (.cells #[.int .i64 x.f0, .slice Ax x.f1.length cx, .string x.f2] 48)); have HB2 := Aside0.mk (HB.out.alloc HB.out.size (.cells #[.int .i64 x.f0, .slice Ax x.f1.length cx, .string x.f2] 48)); have HL6 := Aside0.mk (show w.heap.size ≤ w1.heap.size ∧ gb < w1.heap.size by have := HB.out.size; have := blk_lt HK.out; omega); clear x0 x1 x2 X0 X1 X2 HK HB; generalize w1.heap.size = g6 at HG6 HL6 ⊢; generalize w1.alloc (.cells #[.int .i64 x.f0, .slice Ax x.f1.length cx, .string x.f2] 48) = w2 at HG6 HG4 HB2 ⊢; have HB := HB2; clear HB2; go_wp2
  go_loopw [7] (fun v7 wr => ∃ (i : Nat) (y : S48) (Ay : Option Addr) (cy : Nat), v7 = .int .i64 i ∧ Aside0 (1 ≤ i ∧ i ≤ n) ∧ Aside0 (archivistref16_First.l0 k a0 l1 (n - i) y i = some r) ∧ Aside0 (y.f1.length ≤ cy ∧ Kd.F k108 w P1_ Ay y.f1.length y.f1) ∧ Aside0 (wr.heap[g6]? = some (.cells #[.int .i64 y.f0, .slice Ay y.f1.length cy, .string y.f2] 48 (0, 0))) ∧ Aside0 (wr.heap[gb]? = some (.cells #[.int .i64 0, .slice none 0 0, .string ⟨#[]⟩] 48 (0, 0))) ∧ Aside0 (Below w.heap.size w wr)) (fun v7 _ => n - (intOf v7).toNat)
  case atStart => exact ⟨1, x, Ax, cx, rfl, ⟨by omega⟩, HR, HX, HG6, HG4, HB⟩
  case round =>
   clear HR HX HG6 HG4 HB; obtain ⟨i, y, Ay, cy, rfl, HI, HR, HX, HG6, HG4, HB⟩ := hrel; have hmax := HM.out; by_cases hin : i < n
   ·obtain ⟨d, hd⟩ : ∃ d, n - i = d + 1 := ⟨n - i - 1, by omega⟩; have hr := HR.out; rw [hd] at hr; unfold archivistref16_First.l0 at hr; obtain ⟨b, hb, hr⟩ := Option.bind_eq_some_iff.mp hr; obtain ⟨ad2, Az, cz, he2, z0, z1, z2, hz1, hz2⟩ := archivistref16_First.at HF.out i (by have := HN.out; omega); obtain rfl : ad = ad2 := by injection he2
    obtain ⟨z, hz⟩ : ∃ z, rd_T48 l1 i = z := ⟨_, rfl⟩; rw [hz] at z0 z1 z2 hz1 hz2 hb hr; have HD := Aside0.mk hd; have HZ := Aside0.mk (And.intro hz1 hz2); have HA := Aside0.mk hb; have HR2 := Aside0.mk hr; have Z0 := Aside0.mk z0; have Z1 := Aside0.mk z1; have Z2 := Aside0.mk z2; have hib : decide ((i : Int) < (n : Int)) = true := decide_eq_true (by omega); have hi1 : (i : Int) < (n : Int) := by omega
    have hi0 : (0 : Int) ≤ (i : Int) := by omega
    have HIN := Aside0.mk hin; have HMX := Aside0.mk hmax; clear hd hz hb hr hz1 hz2 z0 z1 z2 he2 hin hmax; go_upto_region 7 with (fail)
    have hst : wr.drew.cell? (ad.add (i * 3)) = some (.int .i64 z.f0) ∧ wr.drew.cell? ⟨(ad.add (i * 3)).block, (ad.add (i * 3)).off + 1, none⟩ = some (.slice Az z.f1.length cz) ∧ wr.drew.cell? ⟨(ad.add (i * 3)).block, (ad.add (i * 3)).off + 2, none⟩ = some (.string z.f2) ∧ wr.drew.cell? (⟨g6, 0, none⟩ : Addr) = some (.int .i64 y.f0) ∧ wr.drew.cell? ⟨(⟨g6, 0, none⟩ : Addr).block, (⟨g6, 0, none⟩ : Addr).off + 1, none⟩ = some (.slice Ay y.f1.length cy) ∧ wr.drew.cell? ⟨(⟨g6, 0, none⟩ : Addr).block, (⟨g6, 0, none⟩ : Addr).off + 2, none⟩ = some (.string y.f2) :=
     ⟨(HB.out.cell (World.block_lt_of_cell? w _ Z0.out)).trans Z0.out, (HB.out.cell (World.block_lt_of_cell? w _ Z1.out)).trans Z1.out, (HB.out.cell (World.block_lt_of_cell? w _ Z2.out)).trans Z2.out, (blk_cell HG6.out 0).trans rfl, (blk_cell HG6.out 1).trans rfl, (blk_cell HG6.out 2).trans rfl⟩
    have HBd := Aside0.mk (below_drew1 HB.out); have HG6d := Aside0.mk (blk_drew HG6.out); have HG4d := Aside0.mk (blk_drew HG4.out); clear HB HG6 HG4; refine start_ (n := 7) (S := fun w' => w'.cell? (ad.add (i * 3)) = some (.int .i64 z.f0) ∧ w'.cell? ⟨(ad.add (i * 3)).block, (ad.add (i * 3)).off + 1, none⟩ = some (.slice Az z.f1.length cz) ∧ w'.cell? ⟨(ad.add (i * 3)).block, (ad.add (i * 3)).off + 2, none⟩ = some (.string z.f2) ∧ w'.cell? (⟨g6, 0, none⟩ : Addr) = some (.int .i64 y.f0) ∧ w'.cell? ⟨(⟨g6, 0, none⟩ : Addr).block, (⟨g6, 0, none⟩ : Addr).off + 1, none⟩ = some (.slice Ay y.f1.length cy) ∧ w'.cell? ⟨(⟨g6, 0, none⟩ : Addr).block, (⟨g6, 0, none⟩ : Addr).off + 2, none⟩ = some (.string y.f2)) (ds := []) #[N_,N_,N_,N_,N_,N_,N_] (by kernel_rfl) rfl rfl hst (fun hHeld => ?_); refine with_tabW archivistref16_First.tab7 archivistref16_First.bits7 (fun HT_ HW_ => ?_); generalize wr.drew = w5 at HBd HG6d HG4d hHeld hst ⊢; clear hst; refine archivistref16_First.pY 0 21 #[J_,N_,N_,N_,N_,N_,N_] HT_.out ?_; refine archivistref16_First.pY 1 22 #[J_,J_,N_,N_,N_,N_,N_] HT_.out ?_; refine archivistref16_First.pY 2 23 #[J_,J_,J_,N_,N_,N_,N_] HT_.out ?_; refine archivistref16_First.pY 5 26 #[J_,J_,J_,N_,N_,J_,N_] HT_.out ?_; refine tY 3 24 HT_.out HW_.out hHeld ?_; refine tY 4 25 HT_.out HW_.out hHeld ?_; refine one_ (i := 6) (N := some 27) #[J_,J_,J_,J_,J_,J_,J_] rfl rfl (one_of HT_.out (by kernel_rfl)) (by decide) (fun K hK => ?_); have hen := enters_ Try.func24 (by kernel_rfl) rfl #[.agg #[.int .i64 z.f0, .slice Az z.f1.length cz, .string z.f2], .agg #[.int .i64 y.f0, .slice Ay y.f1.length cy, .string y.f2], .bool a0] w5; refine call_ 24 _ (by rfl) rfl (by unfold execOp; simp [resolve, Deferred.ofValue, invoke, Act.eval, hen]; rfl) ?_; clear hen; refine (archivistref13_Ahead.calls k z.f0 Az cz z.f1 z.f2 y.f0 Ay cy y.f1 y.f2 a0 b w5 (Kd.C_below (Kd.F_now HZ.out.2) HBd.out) HZ.out.1 (Kd.C_below (Kd.F_now HX.out.2) HBd.out) HX.out.1 HA.out).mono ?_; rintro e w8 ⟨rfl, hb_⟩; have HB8 := Aside0.mk (below_step HBd.out hb_); have HG68 := Aside0.mk (blk_below HG6d.out hb_); have HG48 := Aside0.mk (blk_below HG4d.out hb_); refine ⟨_, rfl, ?_⟩; refine hK.out _ _ (archivistref16_First.keep hHeld hb_) (fun hHeld => ?_); clear hK K hb_ HBd HG6d HG4d; refine norm_ (a' := ?_) ?_ ?_; rotate_left
    ·show Act.put _ (some 27) _ = _; simp only [Act.put, List.setIfInBounds_toArray, List.set_cons_zero, List.set_cons_succ, i64_w, i32_w]; rfl
    refine done_ (done_of HT_.out (by kernel_rfl)) ?_; obtain ⟨s0, s1, s2, s3, s4, s5⟩ := hHeld; have f0 : w8.frozen? ⟨g6, 0, none⟩ = false := blk_frozen HG68.out 0; have f1 : w8.frozen? ⟨g6, 1, none⟩ = false := blk_frozen HG68.out 1; have f2 : w8.frozen? ⟨g6, 2, none⟩ = false := blk_frozen HG68.out 2; have hw1 : IntKind.i64.wrap ((i : Int) + 1) = ((i + 1 : Nat) : Int) := by have := HIN.out; have := HMX.out; rw [IntKind.wrap_i64]; omega
    have hd2 : n - (i + 1) = n - i - 1 := by omega
    cases b with
    | true =>
     go_wp2
     go_roundw
     case measure => have := HIN.out; simp [intOf]; omega
     case rel =>
      refine ⟨i + 1, z, Az, cz, by first | rfl | (rw [hw1]), ⟨by have := HIN.out; omega⟩, ⟨?_⟩, HZ, ⟨blk_put (blk_put (blk_put HG68.out 0 _ rfl) 1 _ rfl) 2 _ rfl⟩, ⟨blk_far (blk_far (blk_far HG48.out (by have := HL6.out.2; simp; omega) _) (by have := HL6.out.2; simp; omega) _) (by have := HL6.out.2; simp; omega) _⟩, ⟨((HB8.out.setCell (p := ⟨g6, 0, none⟩) HL6.out.1 _).setCell (p := ⟨g6, 1, none⟩) HL6.out.1 _).setCell (p := ⟨g6, 2, none⟩) HL6.out.1 _⟩⟩; have := HR2.out; rw [if_pos rfl] at this; rwa [hd2, HD.out]
    | false =>
     go_wp2
     go_roundw
     case measure => have := HIN.out; simp [intOf]; omega
     case rel =>
      refine ⟨i + 1, y, Ay, cy, by first | rfl | (rw [hw1]), ⟨by have := HIN.out; omega⟩, ⟨?_⟩, HX, HG68, HG48, HB8⟩; have := HR2.out; rw [if_neg (by simp)] at this; rwa [hd2, HD.out]
   ·have hr := HR.out; rw [show n - i = 0 by omega] at hr; injection hr with hr; subst hr; have hib : decide ((i : Int) < (n : Int)) = false := decide_eq_false (by omega); have hib2 : decide (i < n) = false := decide_eq_false hin; have hnn : (n : Int) ≤ (i : Int) := by omega
    have g0 : wr.cell? ⟨g6, 0, none⟩ = some (.int .i64 y.f0) := (blk_cell HG6.out 0).trans rfl; have g1 : wr.cell? ⟨g6, 1, none⟩ = some (.slice Ay y.f1.length cy) := (blk_cell HG6.out 1).trans rfl; have g2 : wr.cell? ⟨g6, 2, none⟩ = some (.string y.f2) := (blk_cell HG6.out 2).trans rfl; have k0 : wr.cell? ⟨gb, 0, none⟩ = some (.int .i64 0) := (blk_cell HG4.out 0).trans rfl; have k1 : wr.cell? ⟨gb, 1, none⟩ = some (.slice none 0 0) := (blk_cell HG4.out 1).trans rfl; have k2 : wr.cell? ⟨gb, 2, none⟩ = some (.string ⟨#[]⟩) := (blk_cell HG4.out 2).trans rfl; have kf0 : wr.frozen? ⟨gb, 0, none⟩ = false := blk_frozen HG4.out 0; have kf1 : wr.frozen? ⟨gb, 1, none⟩ = false := blk_frozen HG4.out 1; have kf2 : wr.frozen? ⟨gb, 2, none⟩ = false := blk_frozen HG4.out 2; clear hin hmax; go_wp2
    refine bodyPost_ret (results_list (rs := [.cell 4 48, .tmp 5]) rfl (by simp) (.cell gb 48 #[.int .i64 y.f0, .slice Ay y.f1.length cy, .string y.f2] (0, 0) _ rfl (blk_put (blk_put (blk_put HG4.out 0 _ rfl) 1 _ rfl) 2 _ rfl) Try.underlying48 rfl (by kernel_rfl) (.tmp .nil))) rfl ?_; have hle := Nat.le_of_eq HGB.out; have hBB := ((HB.out.setCell (p := ⟨gb, 0, none⟩) hle (.int .i64 y.f0)).setCell (p := ⟨gb, 1, none⟩) hle (.slice Ay y.f1.length cy)).setCell (p := ⟨gb, 2, none⟩) hle (.string y.f2); exact ⟨.slice Ay y.f1.length cy, rfl, Kd.V_mono (Kd.V_below (Kd.V_mk (e := 108) (base := w.heap.size) HX.out.1 HX.out.2) hBB) (fun k hk => .inl hk), hBB⟩

/-! ### archivistlaw16_samePairs: function 36 -/
def archivistlaw16_samePairs.l0 : Nat → List (S103) → List (S108) → Int → Option (Bool)
 | 0, _, _, _ => none
 | k + 1, x0, x1, x5 => if x5 < (x0.length : Int) then (if 0 ≤ x5 then (if x5 < (x1.length : Int) then (if ((rd_T103 x0 x5).f0).toList = ((rd_T108 x1 x5).f0).toList then (if ((rd_T103 x0 x5).f1).toList = ((rd_T108 x1 x5).f1).toList then (archivistlaw16_samePairs.l0 k x0 x1 (wrap64 (x5 + 1))) else (some false)) else (some false)) else (none)) else (none)) else (some true)
def archivistlaw16_samePairs.f (k : Nat) (l0 : List (S103)) (l1 : List (S108)) : Option (Bool) := if (l0.length : Int) = (l1.length : Int) then (archivistlaw16_samePairs.l0 k l0 l1 0) else (some false)
theorem archivistlaw16_samePairs.mono_l : ∀ k, (∀ y0 y1 y2, LeO (archivistlaw16_samePairs.l0 k y0 y1 y2) (archivistlaw16_samePairs.l0 (k + 1) y0 y1 y2))
 | 0 => fun _ _ _ r h => by simp [archivistlaw16_samePairs.l0] at h
 | k + 1 => by
  have ih0 := archivistlaw16_samePairs.mono_l k
  ·intro y0 y1 y2
   unfold archivistlaw16_samePairs.l0
   exact mo
theorem archivistlaw16_samePairs.mono : ∀ a0 a1 k, LeO (archivistlaw16_samePairs.f k a0 a1) (archivistlaw16_samePairs.f (k + 1) a0 a1) := by
 intro a0 a1 k
 have ih0 := archivistlaw16_samePairs.mono_l k
 unfold archivistlaw16_samePairs.f
 exact mo
theorem archivistlaw16_samePairs.lf {p_ : Prop} (h : p_ := by
 go_wp2
 repeat (go_quiet (fail); try go_wp2)
 go_ret
 exact ⟨rs, dr⟩) : p_ := h
set_option maxHeartbeats 8000000 in
set_option maxRecDepth 100000 in
theorem archivistlaw16_samePairs.calls (k : Nat) (A0 : Option Addr) (c0 : Nat) (l0 : List (S103)) (A1 : Option Addr) (c1 : Nat) (l1 : List (S108)) (r : Bool) (w : World) (hr0 : Kd.C k103 w A0 l0.length l0) (hc0 : l0.length ≤ c0) (hr1 : Kd.C k108 w A1 l1.length l1) (hc1 : l1.length ≤ c1) (h : archivistlaw16_samePairs.f k l0 l1 = some r) :
  Calls Try.prog 36 #[.slice A0 l0.length c0, .slice A1 l1.length c1] w fun e w' => e = .returned (.bool r) ∧ Drawn0 w w' := by
 have HR0 := Aside0.mk hr0; have HC0 := Aside0.mk hc0; clear hr0 hc0; have HR1 := Aside0.mk hr1; have HC1 := Aside0.mk hc1; clear hr1 hc1; have H : (if (l0.length : Int) = (l1.length : Int) then (archivistlaw16_samePairs.l0 k l0 l1 0) else (some false)) = some r := h; clear h; by_cases c3 : (l0.length : Int) = (l1.length : Int)
 ·rw [if_pos c3] at H; have c3b0 : ((l0.length : Int) == (l1.length : Int)) = true := beq_iff_eq.mpr c3; have c3b1 : ((l0.length : Int) != (l1.length : Int)) = false := bne_eq_false_iff_eq.mpr c3; have c3b2 : (l0.length == l1.length) = true := by first | simpa using c3 | (simp at c3 ⊢; omega)
  clear c3; have H' := Aside0.mk H; clear H; go_enter Try.func36, Try.ntmps36
  go_wp2
  repeat (go_quiet (fail); try go_wp2)
  go_loopg [5] k (fun kq v5 w' => ∃ (x5_1 : Int), v5 = .int .i64 x5_1 ∧ Aside0 (archivistlaw16_samePairs.l0 kq l0 l1 x5_1 = some r) ∧ Aside0 (kq ≤ k) ∧ Drawn0 w w')
  case atStart => exact ⟨(0), rs, H', ⟨Nat.le_refl _⟩, zbs⟩
  case round =>
   clear H'; (try clear c1); (try clear p2); (try clear c3); (try clear c3b0); (try clear c3b1); (try clear c3b2); obtain ⟨x5_1, rfl, HA, HK1, ⟨m1, rfl⟩⟩ := hrel; cases gk with
   | zero => exact absurd HA.out (by simp [archivistlaw16_samePairs.l0])
   | succ k1 =>
    have H := HA.out; clear HA; simp only [archivistlaw16_samePairs.l0] at H; by_cases c4 : x5_1 < (l0.length : Int)
    ·rw [if_pos c4] at H; have c4b0 := decide_eq_true c4; clear c4; obtain ⟨c5, H⟩ := ip H; have c5b0 := decide_eq_true c5; clear c5; obtain ⟨c6, H⟩ := ip H; have c6b0 := decide_eq_true c6; clear c6; by_cases c7 : ((rd_T103 l0 x5_1).f0).toList = ((rd_T108 l1 x5_1).f0).toList
     ·rw [if_pos c7] at H; have c7b0 : (((rd_T103 l0 x5_1).f0).toList == ((rd_T108 l1 x5_1).f0).toList) = true := beq_iff_eq.mpr c7; have c7b1 : (((rd_T103 l0 x5_1).f0).toList != ((rd_T108 l1 x5_1).f0).toList) = false := bne_eq_false_iff_eq.mpr c7; clear c7; by_cases c8 : ((rd_T103 l0 x5_1).f1).toList = ((rd_T108 l1 x5_1).f1).toList
      ·rw [if_pos c8] at H; have c8b0 : (((rd_T103 l0 x5_1).f1).toList == ((rd_T108 l1 x5_1).f1).toList) = true := beq_iff_eq.mpr c8; have c8b1 : (((rd_T103 l0 x5_1).f1).toList != ((rd_T108 l1 x5_1).f1).toList) = false := bne_eq_false_iff_eq.mpr c8; clear c8; have H' := Aside0.mk H; clear H; have p355 : 0 ≤ (x5_1 : Int) := od; have q355 : x5_1 < (l0.length : Int) := od; obtain ⟨ad355, e355, hx355_0, hx355_1⟩ := at_T103 HR0.out x5_1 p355 q355; cases e355; replace p355 := eq_true p355; replace q355 := eq_true q355; have p356 : 0 ≤ (x5_1 : Int) := od; have q356 : x5_1 < (l1.length : Int) := od; obtain ⟨ad356, e356, hx356_0, hx356_1⟩ := at_T108 HR1.out x5_1 p356 q356; cases e356; replace p356 := eq_true p356; replace q356 := eq_true q356; have p357 : 0 ≤ (x5_1 : Int) := od; have q357 : x5_1 < (l0.length : Int) := od; obtain ⟨ad357, e357, hx357_0, hx357_1⟩ := at_T103 HR0.out x5_1 p357 q357; obtain rfl : ad355 = ad357 := (by injection e357); replace p357 := eq_true p357; replace q357 := eq_true q357; have p358 : 0 ≤ (x5_1 : Int) := od; have q358 : x5_1 < (l1.length : Int) := od; obtain ⟨ad358, e358, hx358_0, hx358_1⟩ := at_T108 HR1.out x5_1 p358 q358; obtain rfl : ad356 = ad358 := (by injection e358); replace p358 := eq_true p358; replace q358 := eq_true q358; go_wp2
       repeat (go_quiet (fail); try go_wp2)
       go_roundg k1
       case measure => have := HK1.out; omega
       case rel => exact ⟨(wrap64 (x5_1 + 1)), rs, H', ⟨zbp⟩, zbs⟩
      ·rw [if_neg c8] at H; have c8b0 : (((rd_T103 l0 x5_1).f1).toList == ((rd_T108 l1 x5_1).f1).toList) = false := beq_eq_false_iff_ne.mpr c8; have c8b1 : (((rd_T103 l0 x5_1).f1).toList != ((rd_T108 l1 x5_1).f1).toList) = true := bne_iff_ne.mpr c8; obtain rfl := Option.some.inj H; have p355 : 0 ≤ (x5_1 : Int) := od; have q355 : x5_1 < (l0.length : Int) := od; obtain ⟨ad355, e355, hx355_0, hx355_1⟩ := at_T103 HR0.out x5_1 p355 q355; cases e355; replace p355 := eq_true p355; replace q355 := eq_true q355; have p356 : 0 ≤ (x5_1 : Int) := od; have q356 : x5_1 < (l1.length : Int) := od; obtain ⟨ad356, e356, hx356_0, hx356_1⟩ := at_T108 HR1.out x5_1 p356 q356; cases e356; replace p356 := eq_true p356; replace q356 := eq_true q356; have p357 : 0 ≤ (x5_1 : Int) := od; have q357 : x5_1 < (l0.length : Int) := od; obtain ⟨ad357, e357, hx357_0, hx357_1⟩ := at_T103 HR0.out x5_1 p357 q357; obtain rfl : ad355 = ad357 := (by injection e357); replace p357 := eq_true p357; replace q357 := eq_true q357; have p358 : 0 ≤ (x5_1 : Int) := od; have q358 : x5_1 < (l1.length : Int) := od; obtain ⟨ad358, e358, hx358_0, hx358_1⟩ := at_T108 HR1.out x5_1 p358 q358; obtain rfl : ad356 = ad358 := (by injection e358); replace p358 := eq_true p358; replace q358 := eq_true q358; exact archivistlaw16_samePairs.lf
     ·rw [if_neg c7] at H; have c7b0 : (((rd_T103 l0 x5_1).f0).toList == ((rd_T108 l1 x5_1).f0).toList) = false := beq_eq_false_iff_ne.mpr c7; have c7b1 : (((rd_T103 l0 x5_1).f0).toList != ((rd_T108 l1 x5_1).f0).toList) = true := bne_iff_ne.mpr c7; obtain rfl := Option.some.inj H; have p355 : 0 ≤ (x5_1 : Int) := od; have q355 : x5_1 < (l0.length : Int) := od; obtain ⟨ad355, e355, hx355_0, hx355_1⟩ := at_T103 HR0.out x5_1 p355 q355; cases e355; replace p355 := eq_true p355; replace q355 := eq_true q355; have p356 : 0 ≤ (x5_1 : Int) := od; have q356 : x5_1 < (l1.length : Int) := od; obtain ⟨ad356, e356, hx356_0, hx356_1⟩ := at_T108 HR1.out x5_1 p356 q356; cases e356; replace p356 := eq_true p356; replace q356 := eq_true q356; exact archivistlaw16_samePairs.lf
    ·rw [if_neg c4] at H; have c4b0 : decide (x5_1 < (l0.length : Int)) = false := decide_eq_false c4; clear c4; obtain rfl := Option.some.inj H; exact archivistlaw16_samePairs.lf
 ·rw [if_neg c3] at H; have c3b0 : ((l0.length : Int) == (l1.length : Int)) = false := beq_eq_false_iff_ne.mpr c3; have c3b1 : ((l0.length : Int) != (l1.length : Int)) = true := bne_iff_ne.mpr c3; have c3b2 : (l0.length == l1.length) = false := by first | simpa using c3 | (simp at c3 ⊢; omega)
  obtain rfl := Option.some.inj H; go_enter Try.func36, Try.ntmps36
  go_wp2
  repeat (go_quiet (fail); try go_wp2)
  go_ret
  exact ⟨rs, dr⟩

/-! ### archivistlaw16_sameEntry: function 18 -/
def archivistlaw16_sameEntry.f (k : Nat) (a0_0 : Int) (l0_1 : List (S103)) (a0_2 : ByteArray) (a1_0 : Int) (l1_1 : List (S108)) (a1_2 : ByteArray) : Option (Bool) := (archivistlaw16_samePairs.f k l0_1 l1_1).bind fun t361 => (if t361 = true then (if a0_0 = a1_0 then (some (a0_2.toList == a1_2.toList)) else (some false)) else (some false))
theorem archivistlaw16_sameEntry.mono : ∀ a0 a1 a2 a3 a4 a5 k, LeO (archivistlaw16_sameEntry.f k a0 a1 a2 a3 a4 a5) (archivistlaw16_sameEntry.f (k + 1) a0 a1 a2 a3 a4 a5) := by
 intro a0 a1 a2 a3 a4 a5 k
 unfold archivistlaw16_sameEntry.f
 exact mo
theorem archivistlaw16_sameEntry.lf {p_ : Prop} (h : p_ := by
 go_enter Try.func18, Try.ntmps18
 go_wp2_with (first | ((with_reducible refine gate_dst (N := 2) rfl ?_); refine box_event ?hg (N := 2) ?hd (cs := #[.int .i64 a0_0, .slice A0_1 l0_1.length c0_1, .string a0_2]) (t := 26) ?hr ?_; (case hd => rfl); (case hg => rfl); (case hr => first | (go_simp; done) | (go_simp; rfl)); intro gbq0 hg wq1 hbox hb; have BKq2 := Aside0.mk (hbox); have GWq3 := Aside0.mk ((zad : w.heap.size ≤ gbq0)); have GEq4 := Aside0.mk ((zad : w.heap.size ≤ gbq0)); replace HB := Aside0.mk (below_step bl hb); clear hb hbox hg) | ((with_reducible refine gate_dst (N := 3) rfl ?_); refine box_event ?hg (N := 3) ?hd (cs := #[.int .i64 a1_0, .slice A1_1 l1_1.length c1_1, .string a1_2]) (t := 48) ?hr ?_; (case hd => rfl); (case hg => rfl); (case hr => first | (go_simp; done) | (go_simp; rfl)); intro gbq5 hg wq6 hbox hb; have BKq7 := Aside0.mk (hbox); have GWq8 := Aside0.mk ((zak : w.heap.size ≤ gbq5)); have GEq9 := Aside0.mk ((zak : w.heap.size ≤ gbq5)); have NBq10 := Aside0.mk ((zbt : gbq0 ≠ gbq5)); have NBq11 := Aside0.mk ((zbu : gbq5 ≠ gbq0)); replace BKq2 := Aside0.mk (blk_below (g := gbq0) (o := .cells #[.int .i64 a0_0, .slice A0_1 l0_1.length c0_1, .string a0_2] 26 (0, 0)) (bz BKq2.out) hb); replace HB := Aside0.mk (below_step bs hb); clear hb hbox hg; have hnbq12 := NBq10.out; have hncq13 := NBq11.out; have hczq14 : wq6.cell? ⟨gbq0, 0, none⟩ = some (.int .i64 a0_0) := (blk_cell BKq2.out 0).trans rfl; have hczq15 : wq6.cell? ⟨gbq0, 1, none⟩ = some (.slice A0_1 l0_1.length c0_1) := (blk_cell BKq2.out 1).trans rfl; have hczq16 : wq6.cell? ⟨gbq0, 2, none⟩ = some (.string a0_2) := (blk_cell BKq2.out 2).trans rfl; have hfzq17 := blk_frozen BKq2.out 0; have hfzq18 := blk_frozen BKq2.out 1; have hfzq19 := blk_frozen BKq2.out 2; have hczq20 : wq6.cell? ⟨gbq5, 0, none⟩ = some (.int .i64 a1_0) := (blk_cell BKq7.out 0).trans rfl; have hczq21 : wq6.cell? ⟨gbq5, 1, none⟩ = some (.slice A1_1 l1_1.length c1_1) := (blk_cell BKq7.out 1).trans rfl; have hczq22 : wq6.cell? ⟨gbq5, 2, none⟩ = some (.string a1_2) := (blk_cell BKq7.out 2).trans rfl; have hfzq23 := blk_frozen BKq7.out 0; have hfzq24 := blk_frozen BKq7.out 1; have hfzq25 := blk_frozen BKq7.out 2) | ((with_reducible refine gate_callee (f := 36) rfl ?_); refine goesL_ (some 10) rfl rfl Try.func36 (by kernel_rfl) rfl #[.slice A0_1 l0_1.length c0_1, .slice A1_1 l1_1.length c1_1] rfl ml ?_; (with_reducible refine (archivistlaw16_samePairs.calls k _ _ l0_1 _ _ l1_1 false _ ?side1 ?side2 ?side3 ?side4 A3.out).mono ?_); (case side1 => repeat (first | exact (Kd.C_below HR0_1.out HB.out) | (with_reducible refine Kd.C_alloc ?_ _) | (with_reducible refine Kd.C_drewN ?_ _) | (with_reducible refine Kd.C_drew ?_))); (case side2 => exact HC0_1.out); (case side3 => repeat (first | exact (Kd.C_below HR1_1.out HB.out) | (with_reducible refine Kd.C_alloc ?_ _) | (with_reducible refine Kd.C_drewN ?_ _) | (with_reducible refine Kd.C_drew ?_))); (case side4 => exact HC1_1.out); rintro e w' ⟨rfl, ⟨nd, rfl⟩⟩; refine ⟨_, rfl, ?_⟩) | ((with_reducible refine gate_callee (f := 36) rfl ?_); refine goesL_ (some 10) rfl rfl Try.func36 (by kernel_rfl) rfl #[.slice A0_1 l0_1.length c0_1, .slice A1_1 l1_1.length c1_1] rfl ml ?_; (with_reducible refine (archivistlaw16_samePairs.calls k _ _ l0_1 _ _ l1_1 true _ ?side1 ?side2 ?side3 ?side4 A3.out).mono ?_); (case side1 => repeat (first | exact (Kd.C_below HR0_1.out HB.out) | (with_reducible refine Kd.C_alloc ?_ _) | (with_reducible refine Kd.C_drewN ?_ _) | (with_reducible refine Kd.C_drew ?_))); (case side2 => exact HC0_1.out); (case side3 => repeat (first | exact (Kd.C_below HR1_1.out HB.out) | (with_reducible refine Kd.C_alloc ?_ _) | (with_reducible refine Kd.C_drewN ?_ _) | (with_reducible refine Kd.C_drew ?_))); (case side4 => exact HC1_1.out); rintro e w' ⟨rfl, ⟨nd, rfl⟩⟩; refine ⟨_, rfl, ?_⟩))
 go_ret
 exact ⟨zaa, bs⟩) : p_ := h
set_option maxHeartbeats 8000000 in
set_option maxRecDepth 100000 in
theorem archivistlaw16_sameEntry.calls (k : Nat) (a0_0 : Int) (A0_1 : Option Addr) (c0_1 : Nat) (l0_1 : List (S103)) (a0_2 : ByteArray) (a1_0 : Int) (A1_1 : Option Addr) (c1_1 : Nat) (l1_1 : List (S108)) (a1_2 : ByteArray) (r : Bool) (w : World) (hr0_1 : Kd.C k103 w A0_1 l0_1.length l0_1) (hc0_1 : l0_1.length ≤ c0_1) (hr1_1 : Kd.C k108 w A1_1 l1_1.length l1_1) (hc1_1 : l1_1.length ≤ c1_1) (h : archivistlaw16_sameEntry.f k a0_0 l0_1 a0_2 a1_0 l1_1 a1_2 = some r) :
  Calls Try.prog 18 #[.agg #[.int .i64 a0_0, .slice A0_1 l0_1.length c0_1, .string a0_2], .agg #[.int .i64 a1_0, .slice A1_1 l1_1.length c1_1, .string a1_2]] w fun e w' => e = .returned (.bool r) ∧ Below w.heap.size w w' := by
 have hu26 := Try.underlying26
 have hu48 := Try.underlying48
 have HR0_1 := Aside0.mk hr0_1
 have HC0_1 := Aside0.mk hc0_1
 clear hr0_1 hc0_1
 have HR1_1 := Aside0.mk hr1_1
 have HC1_1 := Aside0.mk hc1_1
 clear hr1_1 hc1_1
 have HB := Aside0.mk (Below.refl w.heap.size w)
 have H : ((archivistlaw16_samePairs.f k l0_1 l1_1).bind fun t361 => (if t361 = true then (if a0_0 = a1_0 then (some (a0_2.toList == a1_2.toList)) else (some false)) else (some false))) = some r := h
 clear h
 obtain ⟨t361, A3, H⟩ := be H
 by_cases c4 : t361 = true
 ·subst c4
  rw [if_pos rfl] at H
  by_cases c5 : a0_0 = a1_0
  ·rw [if_pos c5] at H
   have c5b0 : (a0_0 == a1_0) = true := beq_iff_eq.mpr c5
   have c5b1 : (a0_0 != a1_0) = false := bne_eq_false_iff_eq.mpr c5
   clear c5
   obtain rfl := Option.some.inj H
   exact archivistlaw16_sameEntry.lf
  ·rw [if_neg c5] at H
   have c5b0 : (a0_0 == a1_0) = false := beq_eq_false_iff_ne.mpr c5
   have c5b1 : (a0_0 != a1_0) = true := bne_iff_ne.mpr c5
   obtain rfl := Option.some.inj H
   exact archivistlaw16_sameEntry.lf
 ·replace c4 := Bool.eq_false_iff.mpr c4
  subst c4
  rw [if_neg nf] at H
  obtain rfl := Option.some.inj H
  exact archivistlaw16_sameEntry.lf

end Go.Proofs.Ytaehlbbjbeibfaa.X
