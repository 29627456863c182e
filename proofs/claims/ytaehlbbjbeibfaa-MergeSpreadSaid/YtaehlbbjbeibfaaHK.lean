/-
 The plain texts of the seat Ytaehlbbjbeibfaa in one.
-/
import Derived.Test.YtaehlbbjbeibfaaHJ
import Derived.Laws.EntriesVeiled
section
namespace Go.Proofs.Ytaehlbbjbeibfaa.X
open Go.RowKit Go.Proofs.YtaehlbbjbeibfaaW.PrintWords Go.Proofs.YtaehlbbjbeibfaaW.PrintLast Go.Proofs.YtaehlbbjbeibfaaW.PrintMore
attribute [local go_sem] max2_int min2_int max_two min_two max_three min_three max_four min_four
set_option linter.unusedVariables false
set_option linter.unusedSimpArgs false

open Go.Proofs.Ytaehlbbjbeibfaa Go.Proofs.Ytaehlbbjbeibfaa.B
structure S101 where
 f0 : F26
 f1 : Int
def z101 : S101 := ⟨zF26, 0⟩
def k101 : Kd S101 := Kd.iso (Kd.pair kF26 (Kd.int .i64)) (fun x : S101 => (x.f0, x.f1))
theorem k101_open {w : World} {x : S101} {cs : List Value} (h : k101.K w x cs) : cs = [.int .i64 x.f0.t, .slice x.f0.h.A x.f0.h.n x.f0.h.c, .string x.f0.s, .int .i64 x.f1] := by
 obtain ⟨_, _, rfl, h0, rfl⟩ := h
 obtain rfl := kF26_open h0
 rfl
theorem k101_openM {w : World} {base : Nat} {ok : Nat → Prop} {x : S101} {cs : List Value} (h : k101.M w base ok x cs) : cs = [.int .i64 x.f0.t, .slice x.f0.h.A x.f0.h.n x.f0.h.c, .string x.f0.s, .int .i64 x.f1] := by
 obtain ⟨_, _, rfl, h0, rfl⟩ := h
 obtain rfl := kF26_openM h0
 rfl
theorem k101_mkM (w : World) (base : Nat) (ok : Nat → Prop) (x : S101) : k101.M w base ok x [.int .i64 x.f0.t, .slice x.f0.h.A x.f0.h.n x.f0.h.c, .string x.f0.s, .int .i64 x.f1] := ⟨[.int .i64 x.f0.t, .slice x.f0.h.A x.f0.h.n x.f0.h.c, .string x.f0.s], [.int .i64 x.f1], rfl, kF26_mkM w base ok x.f0, rfl⟩
def rd_T101 (xs : List S101) (i : Int) : S101 := xs.getD i.toNat z101
theorem at_T101 {w : World} {A : Option Addr} {n : Nat} {xs : List S101} (h : Kd.C k101 w A n xs) (i : Int) (h0 : 0 ≤ i) (h1 : i < n) : ∃ ad, A = some ad ∧ w.cell? (ad.add (i.toNat * 4)) = some (.int .i64 (rd_T101 xs i).f0.t) ∧ w.cell? ⟨(ad.add (i.toNat * 4)).block, (ad.add (i.toNat * 4)).off + 1, none⟩ = some (.slice (rd_T101 xs i).f0.h.A (rd_T101 xs i).f0.h.n (rd_T101 xs i).f0.h.c) ∧ w.cell? ⟨(ad.add (i.toNat * 4)).block, (ad.add (i.toNat * 4)).off + 2, none⟩ = some (.string (rd_T101 xs i).f0.s) ∧ w.cell? ⟨(ad.add (i.toNat * 4)).block, (ad.add (i.toNat * 4)).off + 3, none⟩ = some (.int .i64 (rd_T101 xs i).f1) := by
 obtain ⟨ad, c, e, _, hK, hc0⟩ := Kd.C_get h z101 i h0 h1
 have hc : ∀ j u, c[j]? = some u → w.cell? (ad.add (i.toNat * 4 + j)) = some u := hc0
 obtain rfl := k101_open hK
 exact ⟨ad, e, hc 0 _ rfl, by rw [← add_field _ _ 1 (by omega)]; exact hc 1 _ rfl, by rw [← add_field _ _ 2 (by omega)]; exact hc 2 _ rfl, by rw [← add_field _ _ 3 (by omega)]; exact hc 3 _ rfl⟩
theorem info101 : (Try.prog.info? 101).map (fun i => (i.zero, i.size, i.bytes)) = some (some (.agg #[.int .i64 0, .slice none 0 0, .string ⟨#[]⟩, .int .i64 0]), 4, 56) := by kernel_rfl
instance inh101 : Inhabited S101 := ⟨z101⟩
theorem rd101 (L : List S101) (i : Int) : rd_T101 L i = hgt L i.toNat := rfl
abbrev HSG101 (gc : Nat) : World → Nat → Nat → Option Nat → List S101 → Int → Prop := HpS k101 101 98 (.func (.func 39) #[] #[.pointer (some ⟨gc, 0, none⟩)])
abbrev Env101 := EnvE
abbrev Box101 := BoxE
abbrev Rd101 := RdE
def AllRd101 (W0 : World) (L : List S101) : Prop := ∀ y ∈ L, RdE W0 y.f0
section
variable {W0 : World} {L M : List S101}
theorem AllRd101.at (h : AllRd101 W0 L) (i : Nat) (hi : i < L.length) : RdE W0 (hgt L i).f0 := h _ (hgt_mem L i hi)
theorem AllRd101.rd (h : AllRd101 W0 L) (i : Int) (h0 : 0 ≤ i) (h1 : i < (L.length : Int)) : RdE W0 (rd_T101 L i).f0 := h.at i.toNat (by omega)
theorem AllRd101.perm (h : AllRd101 W0 L) (hp : M.Perm L) : AllRd101 W0 M := fun y hy => h y (hp.mem_iff.1 hy)
theorem AllRd101.snoc {x : F26} {c : Int} (h : AllRd101 W0 L) (hx : RdE W0 x) : AllRd101 W0 (L ++ [⟨x, c⟩]) := fun y hy => by
 rcases List.mem_append.1 hy with hy | hy
 ·exact h y hy
 ·obtain rfl := List.mem_singleton.1 hy
  exact hx
theorem AllRd101.cut (h : AllRd101 W0 L) {e : Nat} {y : S101} (he : e < L.length) (hy : hgt L e = y) : AllRd101 W0 ((L.set 0 y).take e) := fun z hz => by
 have h1 := List.mem_of_mem_take hz
 rcases List.mem_or_eq_of_mem_set h1 with h1 | h1
 ·exact h z h1
 ·rw [h1, ← hy]
  exact h.at e he
end
/-- who goes ahead in the heap -/
def ahG101 (asc : Bool) (a b : S101) : Bool := lessE asc a.f0 b.f0 || (!lessE asc b.f0 a.f0 && decide (a.f1 < b.f1))
theorem hordG101 (asc : Bool) : HOrd (ahG101 asc) := ord_of (lessE asc) (fun y : S101 => y.f0) (fun y => y.f1) (lessE_asym asc) (lessE_neg asc)
end Go.Proofs.Ytaehlbbjbeibfaa.X
end

section
namespace Go.Proofs.Ytaehlbbjbeibfaa.X
open Go.RowKit Go.Proofs.YtaehlbbjbeibfaaW.PrintWords Go.Proofs.YtaehlbbjbeibfaaW.PrintLast Go.Proofs.YtaehlbbjbeibfaaW.PrintMore
attribute [local go_sem] max2_int min2_int max_two min_two max_three min_three max_four min_four
set_option linter.unusedVariables false
set_option linter.unusedSimpArgs false

open Go.Proofs.Ytaehlbbjbeibfaa
variable {asc : Bool} {W0 : World} {gc : Nat}
def S101.cs (x : S101) : Array Value := #[.int .i64 x.f0.t, .slice x.f0.h.A x.f0.h.n x.f0.h.c, .string x.f0.s, .int .i64 x.f1]
def ahead101.T2 : Bool × List (List Nat × List Nat) := (true, [([], []), ([0], [0]), ([1], [1]), ([2], [2]), ([], []), ([4], [4]), ([], []), ([6], [6]), ([3, 5, 7], [3, 5, 7]), ([8, 8], [8]), ([9], [9]), ([10, 9], [9, 10]), ([11, 9], [9, 11]), ([12, 9], [9, 12]), ([9], [9]), ([14, 9], [9, 14]), ([9], [9]), ([16, 9], [9, 16]), ([13, 15, 17, 9, 9], [9, 13, 15, 17]), ([18, 9], [9, 18]), ([19, 18, 9], [9, 19]), ([20], [20]), ([21, 20], [20, 21]), ([20], [20]), ([23, 20], [20, 23]), ([22, 24, 20], [20, 22, 24]), ([20, 25, 9], [9, 20, 25]), ([9, 26], [9, 26]), ([27, 20, 0, 1, 2, 3, 4, 5, 6, 7, 8, 9, 10, 11, 12, 13, 14, 15, 16, 17, 18, 19, 20, 21, 22, 23, 24, 25, 26, 27], [27])])
def ahead101.B2 : List Nat := [0, 1, 3, 7, 0, 16, 0, 64, 255, 511, 1023, 2047, 4095, 8191, 1023, 17407, 1023, 66559, 262143, 524287, 1048575, 2097151, 4194303, 2097151, 10485759, 33554431, 67108863, 134217727, 268435455]
theorem ahead101.tab2 : rtab .any (opsOf Try.f64 2) = ahead101.T2 := by kernel_rfl
theorem ahead101.bits2 : waitsOk ahead101.T2.2 ahead101.B2 = true := by kernel_rfl
theorem keepT101 {W W1 : World} {p q g : Nat} {x y : S101} {f0 f2 : Value} {t : TypeId} (h : W.heap[p]? = some (.cells x.cs 101 (0, 0)) ∧ W.heap[q]? = some (.cells y.cs 101 (0, 0)) ∧ W.heap[g]? = some (.cells #[f0, .func (.func 39) #[] #[.pointer (some ⟨gc, 0, none⟩)], f2] t (0, 0))) (hb : Below W.heap.size W W1) :
  W1.cell? ⟨p, 0, none⟩ = some (.int .i64 x.f0.t) ∧ W1.cell? ⟨p, 1, none⟩ = some (.slice x.f0.h.A x.f0.h.n x.f0.h.c) ∧ W1.cell? ⟨p, 2, none⟩ = some (.string x.f0.s) ∧ W1.cell? ⟨p, 3, none⟩ = some (.int .i64 x.f1) ∧ W1.cell? ⟨q, 0, none⟩ = some (.int .i64 y.f0.t) ∧ W1.cell? ⟨q, 1, none⟩ = some (.slice y.f0.h.A y.f0.h.n y.f0.h.c) ∧ W1.cell? ⟨q, 2, none⟩ = some (.string y.f0.s) ∧ W1.cell? ⟨q, 3, none⟩ = some (.int .i64 y.f1) ∧ W1.cell? ⟨g, 1, none⟩ = some (.func (.func 39) #[] #[.pointer (some ⟨gc, 0, none⟩)]) := by
 have h1 := blk_below h.1 hb
 have h2 := blk_below h.2.1 hb
 have h3 := blk_below h.2.2 hb
 exact ⟨(blk_cell h1 0).trans rfl, (blk_cell h1 1).trans rfl, (blk_cell h1 2).trans rfl, (blk_cell h1 3).trans rfl, (blk_cell h2 0).trans rfl, (blk_cell h2 1).trans rfl, (blk_cell h2 2).trans rfl, (blk_cell h2 3).trans rfl, (blk_cell h3 1).trans rfl⟩
set_option maxHeartbeats 4000000 in
set_option maxRecDepth 1000000 in
theorem ahead101_calls (W : World) (g base : Nat) (row : Option Nat) (L : List S101) (came i j : Int) (hS : HSG101 gc W g base row L came) (hE : Env101 asc W0 W base gc) (hAR : AllRd101 W0 L) (hi0 : 0 ≤ i) (hi1 : i < (L.length : Int)) (hj0 : 0 ≤ j) (hj1 : j < (L.length : Int)) :
  Calls Try.prog 64 #[.pointer (some ⟨g, 0, none⟩), .int .i64 i, .int .i64 j] W fun e w' => e = .returned (.bool (ahG101 asc (rd_T101 L i) (rd_T101 L j))) ∧ Below W.heap.size W w' := by
 have HB := Aside0.mk (Below.refl W.heap.size W); have HE0 := Aside0.mk (And.intro hE hS.size); have HRX := Aside0.mk (hAR.rd i hi0 hi1); have HRY := Aside0.mk (hAR.rd j hj0 hj1); obtain ⟨v, hv, hb, hR, hg⟩ := hS; obtain ⟨A, c, rfl⟩ := Kd.R_slice hR; have hC := (Kd.R_reads' hR).2.2; obtain ⟨ad, e1, x0, x1, x2, x3⟩ := at_T101 hC i hi0 hi1; obtain ⟨ad2, e2, y0, y1, y2, y3⟩ := at_T101 hC j hj0 hj1; subst e1; obtain rfl : ad = ad2 := by injection e2
 have c0 : W.cell? ⟨g, 0, none⟩ = some (.slice (some ad) L.length c) := (blk_cell hb 0).trans rfl; have p1 := eq_true hi0; have p2 := eq_true hi1; have p3 := eq_true hj0; have p4 := eq_true hj1; have HG := Aside0.mk hb; clear hC e2 hv hb hR hg hE hAR; generalize rd_T101 L i = x at x0 x1 x2 x3 HRX ⊢; generalize rd_T101 L j = y at y0 y1 y2 y3 HRY ⊢; go_enter Try.func64, Try.ntmps64
 go_upto_region 1 with (fail)
 go_cut [7, 8] (fun v7 v8 wc => ∃ p q : Nat, v7 = .pointer (some ⟨p, 0, none⟩) ∧ v8 = .pointer (some ⟨q, 0, none⟩) ∧ Aside0 (wc.heap[p]? = some (.cells x.cs 101 (0, 0)) ∧ wc.heap[q]? = some (.cells y.cs 101 (0, 0)) ∧ wc.heap[g]? = some (.cells #[.slice (some ad) L.length c, .func (.func 39) #[] #[.pointer (some ⟨gc, 0, none⟩)], .int .i64 came] 98 (0, 0))) ∧ Aside0 (Below W.heap.size W wc))
 case first =>
  go_region_held3 (fun w' => w'.cell? ⟨g, 0, none⟩ = some (.slice (some ad) L.length c) ∧ w'.cell? (ad.add (i.toNat * 4)) = some (.int .i64 x.f0.t) ∧ w'.cell? ⟨(ad.add (i.toNat * 4)).block, (ad.add (i.toNat * 4)).off + 1, none⟩ = some (.slice x.f0.h.A x.f0.h.n x.f0.h.c) ∧ w'.cell? ⟨(ad.add (i.toNat * 4)).block, (ad.add (i.toNat * 4)).off + 2, none⟩ = some (.string x.f0.s) ∧ w'.cell? ⟨(ad.add (i.toNat * 4)).block, (ad.add (i.toNat * 4)).off + 3, none⟩ = some (.int .i64 x.f1) ∧ w'.cell? (ad.add (j.toNat * 4)) = some (.int .i64 y.f0.t) ∧ w'.cell? ⟨(ad.add (j.toNat * 4)).block, (ad.add (j.toNat * 4)).off + 1, none⟩ = some (.slice y.f0.h.A y.f0.h.n y.f0.h.c) ∧ w'.cell? ⟨(ad.add (j.toNat * 4)).block, (ad.add (j.toNat * 4)).off + 2, none⟩ = some (.string y.f0.s) ∧ w'.cell? ⟨(ad.add (j.toNat * 4)).block, (ad.add (j.toNat * 4)).off + 3, none⟩ = some (.int .i64 y.f1)) (go_keep) (fail)
  all_goals
   go_wp2
   go_meet
   obtain ⟨h1, h2, h3, h4⟩ := two_newA W 101 _ _ HG.out
   first
    | exact ⟨_, _, rfl, rfl, ⟨h1, h2, h3⟩, ⟨h4⟩⟩
    | exact ⟨_, _, rfl, rfl, ⟨h2, h1, h3⟩, ⟨h4⟩⟩
 case rest =>
  obtain ⟨p, q, rfl, rfl, HP, HB2⟩ := hcut; clear x0 x1 x2 x3 y0 y1 y2 y3 c0 p1 p2 p3 p4 HB HG; obtain ⟨b1, hb1⟩ : ∃ b, lessE asc x.f0 y.f0 = b := ⟨_, rfl⟩; obtain ⟨b2, hb2⟩ : ∃ b, lessE asc y.f0 x.f0 = b := ⟨_, rfl⟩; have hl1 := fun (w : World) (hw : Below wc.heap.size wc w) => lessE_calls x.f0 y.f0 HRX.out HRY.out w ((HE0.out.1.step (HB2.out.mono HE0.out.2)).step (hw.mono (Nat.le_trans HE0.out.2 HB2.out.size)))
  have hl2 := fun (w : World) (hw : Below wc.heap.size wc w) => lessE_calls y.f0 x.f0 HRY.out HRX.out w ((HE0.out.1.step (HB2.out.mono HE0.out.2)).step (hw.mono (Nat.le_trans HE0.out.2 HB2.out.size)))
  rw [hb1] at hl1; rw [hb2] at hl2; have HL1 := Aside0.mk hl1; have HL2 := Aside0.mk hl2; have hah : Aside0 (ahG101 asc x y = (b1 || (!b2 && decide (x.f1 < y.f1)))) := ⟨by unfold ahG101; rw [hb1, hb2]⟩; have he := fun (vs : Array Value) (w : World) => enters_ Try.func39 (by kernel_rfl) rfl vs w
  clear hb1 hb2 hl1 hl2; have hst := keepT101 HP.out (Below.refl _ _); obtain ⟨s0, s1, s2, s3, s4, s5, s6, s7, s8⟩ := hst; have HBw := Aside0.mk (below_drew (Below.refl wc.heap.size wc)); go_upto_region 2 with (fail)
  cases b1
  ·cases b2
   ·skip; refine start_ (n := 29) (S := fun w' => w'.cell? ⟨p, 0, none⟩ = some (.int .i64 x.f0.t) ∧ w'.cell? ⟨p, 1, none⟩ = some (.slice x.f0.h.A x.f0.h.n x.f0.h.c) ∧ w'.cell? ⟨p, 2, none⟩ = some (.string x.f0.s) ∧ w'.cell? ⟨p, 3, none⟩ = some (.int .i64 x.f1) ∧ w'.cell? ⟨q, 0, none⟩ = some (.int .i64 y.f0.t) ∧ w'.cell? ⟨q, 1, none⟩ = some (.slice y.f0.h.A y.f0.h.n y.f0.h.c) ∧ w'.cell? ⟨q, 2, none⟩ = some (.string y.f0.s) ∧ w'.cell? ⟨q, 3, none⟩ = some (.int .i64 y.f1) ∧ w'.cell? ⟨g, 1, none⟩ = some (.func (.func 39) #[] #[.pointer (some ⟨gc, 0, none⟩)])) (ds := []) #[N_,N_,N_,N_,N_,N_,N_,N_,N_,N_,N_,N_,N_,N_,N_,N_,N_,N_,N_,N_,N_,N_,N_,N_,N_,N_,N_,N_,N_] (by kernel_rfl) rfl rfl (keepT101 HP.out HBw.out) (fun hHeld => ?_); refine with_tabW ahead101.tab2 ahead101.bits2 (fun HT_ HW_ => ?_); clear s0 s1 s2 s3 s4 s5 s6 s7 s8; refine qY 0 23 HT_.out ?_; refine qY 1 24 HT_.out ?_; refine qY 2 25 HT_.out ?_; refine tY 3 26 HT_.out HW_.out hHeld ?_; refine qY 4 27 HT_.out ?_; refine tY 5 28 HT_.out HW_.out hHeld ?_; refine qY 6 29 HT_.out ?_; refine tY 7 30 HT_.out HW_.out hHeld ?_; refine one_ (i := 8) (N := some 31) #[J_,J_,J_,J_,J_,J_,J_,J_,J_,N_,N_,N_,N_,N_,N_,N_,N_,N_,N_,N_,N_,N_,N_,N_,N_,N_,N_,N_,N_] rfl rfl (one_of HT_.out (by kernel_rfl)) (by decide) (fun K hK => ?_); refine call_ 39 #[.agg #[.int .i64 x.f0.t, .slice x.f0.h.A x.f0.h.n x.f0.h.c, .string x.f0.s], .agg #[.int .i64 y.f0.t, .slice y.f0.h.A y.f0.h.n y.f0.h.c, .string y.f0.s], .pointer (some ⟨gc, 0, none⟩)] (by rfl) rfl (by unfold execOp; first | (simp [resolve, Deferred.ofValue, invoke, Act.eval, he]; done) | (simp [resolve, Deferred.ofValue, invoke, Act.eval, he]; rfl)) ?_; refine (HL1.out _ HBw.out).mono ?_; rintro e w8 ⟨rfl, hb_⟩; have hbb8 := below_step HBw.out hb_; clear hb_; refine ⟨_, rfl, ?_⟩; refine hK.out _ _ (keepT101 HP.out hbb8) (fun hHeld => ?_); clear hK K; refine norm_ (a' := ?_) ?_ ?_; rotate_left
    ·show Act.put _ (some 31) _ = _; simp only [Act.put, List.setIfInBounds_toArray, List.set_cons_zero, List.set_cons_succ, i64_w, i32_w]; rfl
    refine qY 9 32 HT_.out ?_; refine qY 10 33 HT_.out ?_; refine qY 11 34 HT_.out ?_; refine qY 12 35 HT_.out ?_; refine tY 13 36 HT_.out HW_.out hHeld ?_; refine qY 14 37 HT_.out ?_; refine tY 15 38 HT_.out HW_.out hHeld ?_; refine qY 16 39 HT_.out ?_; refine tY 17 40 HT_.out HW_.out hHeld ?_; refine one_ (i := 18) (N := some 41) #[J_,J_,J_,J_,J_,J_,J_,J_,J_,J_,J_,J_,J_,J_,J_,J_,J_,J_,J_,N_,N_,N_,N_,N_,N_,N_,N_,N_,N_] rfl rfl (one_of HT_.out (by kernel_rfl)) (by decide) (fun K hK => ?_); refine call_ 39 #[.agg #[.int .i64 y.f0.t, .slice y.f0.h.A y.f0.h.n y.f0.h.c, .string y.f0.s], .agg #[.int .i64 x.f0.t, .slice x.f0.h.A x.f0.h.n x.f0.h.c, .string x.f0.s], .pointer (some ⟨gc, 0, none⟩)] (by rfl) rfl (by unfold execOp; first | (simp [resolve, Deferred.ofValue, invoke, Act.eval, he]; done) | (simp [resolve, Deferred.ofValue, invoke, Act.eval, he]; rfl)) ?_; refine (HL2.out _ hbb8).mono ?_; rintro e w18 ⟨rfl, hb_⟩; have hbb18 := below_step hbb8 hb_; clear hb_; refine ⟨_, rfl, ?_⟩; refine hK.out _ _ (keepT101 HP.out hbb18) (fun hHeld => ?_); clear hK K; refine norm_ (a' := ?_) ?_ ?_; rotate_left
    ·show Act.put _ (some 41) _ = _; simp only [Act.put, List.setIfInBounds_toArray, List.set_cons_zero, List.set_cons_succ, i64_w, i32_w]; rfl
    refine qY 19 42 HT_.out ?_; refine qY 20 43 HT_.out ?_; refine qY 21 44 HT_.out ?_; refine tY 22 45 HT_.out HW_.out hHeld ?_; refine qY 23 46 HT_.out ?_; refine tY 24 47 HT_.out HW_.out hHeld ?_; refine qY 25 48 HT_.out ?_; refine qY 26 49 HT_.out ?_; refine qY 27 50 HT_.out ?_; refine qY 28 6 HT_.out ?_; refine done_ (done_of HT_.out (by kernel_rfl)) ?_; go_wp2
    go_ret
    exact ⟨by rw [hah.out]; rfl, below_step HB2.out hbb18⟩
   ·skip; refine start_ (n := 29) (S := fun w' => w'.cell? ⟨p, 0, none⟩ = some (.int .i64 x.f0.t) ∧ w'.cell? ⟨p, 1, none⟩ = some (.slice x.f0.h.A x.f0.h.n x.f0.h.c) ∧ w'.cell? ⟨p, 2, none⟩ = some (.string x.f0.s) ∧ w'.cell? ⟨p, 3, none⟩ = some (.int .i64 x.f1) ∧ w'.cell? ⟨q, 0, none⟩ = some (.int .i64 y.f0.t) ∧ w'.cell? ⟨q, 1, none⟩ = some (.slice y.f0.h.A y.f0.h.n y.f0.h.c) ∧ w'.cell? ⟨q, 2, none⟩ = some (.string y.f0.s) ∧ w'.cell? ⟨q, 3, none⟩ = some (.int .i64 y.f1) ∧ w'.cell? ⟨g, 1, none⟩ = some (.func (.func 39) #[] #[.pointer (some ⟨gc, 0, none⟩)])) (ds := []) #[N_,N_,N_,N_,N_,N_,N_,N_,N_,N_,N_,N_,N_,N_,N_,N_,N_,N_,N_,N_,N_,N_,N_,N_,N_,N_,N_,N_,N_] (by kernel_rfl) rfl rfl (keepT101 HP.out HBw.out) (fun hHeld => ?_); refine with_tabW ahead101.tab2 ahead101.bits2 (fun HT_ HW_ => ?_); clear s0 s1 s2 s3 s4 s5 s6 s7 s8; refine qY 0 23 HT_.out ?_; refine qY 1 24 HT_.out ?_; refine qY 2 25 HT_.out ?_; refine tY 3 26 HT_.out HW_.out hHeld ?_; refine qY 4 27 HT_.out ?_; refine tY 5 28 HT_.out HW_.out hHeld ?_; refine qY 6 29 HT_.out ?_; refine tY 7 30 HT_.out HW_.out hHeld ?_; refine one_ (i := 8) (N := some 31) #[J_,J_,J_,J_,J_,J_,J_,J_,J_,N_,N_,N_,N_,N_,N_,N_,N_,N_,N_,N_,N_,N_,N_,N_,N_,N_,N_,N_,N_] rfl rfl (one_of HT_.out (by kernel_rfl)) (by decide) (fun K hK => ?_); refine call_ 39 #[.agg #[.int .i64 x.f0.t, .slice x.f0.h.A x.f0.h.n x.f0.h.c, .string x.f0.s], .agg #[.int .i64 y.f0.t, .slice y.f0.h.A y.f0.h.n y.f0.h.c, .string y.f0.s], .pointer (some ⟨gc, 0, none⟩)] (by rfl) rfl (by unfold execOp; first | (simp [resolve, Deferred.ofValue, invoke, Act.eval, he]; done) | (simp [resolve, Deferred.ofValue, invoke, Act.eval, he]; rfl)) ?_; refine (HL1.out _ HBw.out).mono ?_; rintro e w8 ⟨rfl, hb_⟩; have hbb8 := below_step HBw.out hb_; clear hb_; refine ⟨_, rfl, ?_⟩; refine hK.out _ _ (keepT101 HP.out hbb8) (fun hHeld => ?_); clear hK K; refine norm_ (a' := ?_) ?_ ?_; rotate_left
    ·show Act.put _ (some 31) _ = _; simp only [Act.put, List.setIfInBounds_toArray, List.set_cons_zero, List.set_cons_succ, i64_w, i32_w]; rfl
    refine qY 9 32 HT_.out ?_; refine qY 10 33 HT_.out ?_; refine qY 11 34 HT_.out ?_; refine qY 12 35 HT_.out ?_; refine tY 13 36 HT_.out HW_.out hHeld ?_; refine qY 14 37 HT_.out ?_; refine tY 15 38 HT_.out HW_.out hHeld ?_; refine qY 16 39 HT_.out ?_; refine tY 17 40 HT_.out HW_.out hHeld ?_; refine one_ (i := 18) (N := some 41) #[J_,J_,J_,J_,J_,J_,J_,J_,J_,J_,J_,J_,J_,J_,J_,J_,J_,J_,J_,N_,N_,N_,N_,N_,N_,N_,N_,N_,N_] rfl rfl (one_of HT_.out (by kernel_rfl)) (by decide) (fun K hK => ?_); refine call_ 39 #[.agg #[.int .i64 y.f0.t, .slice y.f0.h.A y.f0.h.n y.f0.h.c, .string y.f0.s], .agg #[.int .i64 x.f0.t, .slice x.f0.h.A x.f0.h.n x.f0.h.c, .string x.f0.s], .pointer (some ⟨gc, 0, none⟩)] (by rfl) rfl (by unfold execOp; first | (simp [resolve, Deferred.ofValue, invoke, Act.eval, he]; done) | (simp [resolve, Deferred.ofValue, invoke, Act.eval, he]; rfl)) ?_; refine (HL2.out _ hbb8).mono ?_; rintro e w18 ⟨rfl, hb_⟩; have hbb18 := below_step hbb8 hb_; clear hb_; refine ⟨_, rfl, ?_⟩; refine hK.out _ _ (keepT101 HP.out hbb18) (fun hHeld => ?_); clear hK K; refine norm_ (a' := ?_) ?_ ?_; rotate_left
    ·show Act.put _ (some 41) _ = _; simp only [Act.put, List.setIfInBounds_toArray, List.set_cons_zero, List.set_cons_succ, i64_w, i32_w]; rfl
    refine qY 19 42 HT_.out ?_; refine qY 20 43 HT_.out ?_; refine pS 21 44 #[J_,J_,J_,J_,J_,J_,J_,J_,J_,J_,J_,J_,J_,J_,J_,J_,J_,J_,J_,J_,J_,J_,N_,N_,N_,N_,N_,N_,N_] HT_.out ?_; refine pS 22 45 #[J_,J_,J_,J_,J_,J_,J_,J_,J_,J_,J_,J_,J_,J_,J_,J_,J_,J_,J_,J_,J_,J_,J_,N_,N_,N_,N_,N_,N_] HT_.out ?_; refine pS 23 46 #[J_,J_,J_,J_,J_,J_,J_,J_,J_,J_,J_,J_,J_,J_,J_,J_,J_,J_,J_,J_,J_,J_,J_,J_,N_,N_,N_,N_,N_] HT_.out ?_; refine pS 24 47 #[J_,J_,J_,J_,J_,J_,J_,J_,J_,J_,J_,J_,J_,J_,J_,J_,J_,J_,J_,J_,J_,J_,J_,J_,J_,N_,N_,N_,N_] HT_.out ?_; refine pS 25 48 #[J_,J_,J_,J_,J_,J_,J_,J_,J_,J_,J_,J_,J_,J_,J_,J_,J_,J_,J_,J_,J_,J_,J_,J_,J_,J_,N_,N_,N_] HT_.out ?_; refine qY 26 49 HT_.out ?_; refine qY 27 50 HT_.out ?_; refine qY 28 6 HT_.out ?_; refine done_ (done_of HT_.out (by kernel_rfl)) ?_; go_wp2
    go_ret
    exact ⟨by rw [hah.out]; rfl, below_step HB2.out hbb18⟩
  ·skip; refine start_ (n := 29) (S := fun w' => w'.cell? ⟨p, 0, none⟩ = some (.int .i64 x.f0.t) ∧ w'.cell? ⟨p, 1, none⟩ = some (.slice x.f0.h.A x.f0.h.n x.f0.h.c) ∧ w'.cell? ⟨p, 2, none⟩ = some (.string x.f0.s) ∧ w'.cell? ⟨p, 3, none⟩ = some (.int .i64 x.f1) ∧ w'.cell? ⟨q, 0, none⟩ = some (.int .i64 y.f0.t) ∧ w'.cell? ⟨q, 1, none⟩ = some (.slice y.f0.h.A y.f0.h.n y.f0.h.c) ∧ w'.cell? ⟨q, 2, none⟩ = some (.string y.f0.s) ∧ w'.cell? ⟨q, 3, none⟩ = some (.int .i64 y.f1) ∧ w'.cell? ⟨g, 1, none⟩ = some (.func (.func 39) #[] #[.pointer (some ⟨gc, 0, none⟩)])) (ds := []) #[N_,N_,N_,N_,N_,N_,N_,N_,N_,N_,N_,N_,N_,N_,N_,N_,N_,N_,N_,N_,N_,N_,N_,N_,N_,N_,N_,N_,N_] (by kernel_rfl) rfl rfl (keepT101 HP.out HBw.out) (fun hHeld => ?_); refine with_tabW ahead101.tab2 ahead101.bits2 (fun HT_ HW_ => ?_); clear s0 s1 s2 s3 s4 s5 s6 s7 s8; refine qY 0 23 HT_.out ?_; refine qY 1 24 HT_.out ?_; refine qY 2 25 HT_.out ?_; refine tY 3 26 HT_.out HW_.out hHeld ?_; refine qY 4 27 HT_.out ?_; refine tY 5 28 HT_.out HW_.out hHeld ?_; refine qY 6 29 HT_.out ?_; refine tY 7 30 HT_.out HW_.out hHeld ?_; refine one_ (i := 8) (N := some 31) #[J_,J_,J_,J_,J_,J_,J_,J_,J_,N_,N_,N_,N_,N_,N_,N_,N_,N_,N_,N_,N_,N_,N_,N_,N_,N_,N_,N_,N_] rfl rfl (one_of HT_.out (by kernel_rfl)) (by decide) (fun K hK => ?_); refine call_ 39 #[.agg #[.int .i64 x.f0.t, .slice x.f0.h.A x.f0.h.n x.f0.h.c, .string x.f0.s], .agg #[.int .i64 y.f0.t, .slice y.f0.h.A y.f0.h.n y.f0.h.c, .string y.f0.s], .pointer (some ⟨gc, 0, none⟩)] (by rfl) rfl (by unfold execOp; first | (simp [resolve, Deferred.ofValue, invoke, Act.eval, he]; done) | (simp [resolve, Deferred.ofValue, invoke, Act.eval, he]; rfl)) ?_; refine (HL1.out _ HBw.out).mono ?_; rintro e w8 ⟨rfl, hb_⟩; have hbb8 := below_step HBw.out hb_; clear hb_; refine ⟨_, rfl, ?_⟩; refine hK.out _ _ (keepT101 HP.out hbb8) (fun hHeld => ?_); clear hK K; refine norm_ (a' := ?_) ?_ ?_; rotate_left
   ·show Act.put _ (some 31) _ = _; simp only [Act.put, List.setIfInBounds_toArray, List.set_cons_zero, List.set_cons_succ, i64_w, i32_w]; rfl
   refine qY 9 32 HT_.out ?_; refine pS 10 33 #[J_,J_,J_,J_,J_,J_,J_,J_,J_,J_,J_,N_,N_,N_,N_,N_,N_,N_,N_,N_,N_,N_,N_,N_,N_,N_,N_,N_,N_] HT_.out ?_; refine pS 11 34 #[J_,J_,J_,J_,J_,J_,J_,J_,J_,J_,J_,J_,N_,N_,N_,N_,N_,N_,N_,N_,N_,N_,N_,N_,N_,N_,N_,N_,N_] HT_.out ?_; refine pS 12 35 #[J_,J_,J_,J_,J_,J_,J_,J_,J_,J_,J_,J_,J_,N_,N_,N_,N_,N_,N_,N_,N_,N_,N_,N_,N_,N_,N_,N_,N_] HT_.out ?_; refine pS 13 36 #[J_,J_,J_,J_,J_,J_,J_,J_,J_,J_,J_,J_,J_,J_,N_,N_,N_,N_,N_,N_,N_,N_,N_,N_,N_,N_,N_,N_,N_] HT_.out ?_; refine pS 14 37 #[J_,J_,J_,J_,J_,J_,J_,J_,J_,J_,J_,J_,J_,J_,J_,N_,N_,N_,N_,N_,N_,N_,N_,N_,N_,N_,N_,N_,N_] HT_.out ?_; refine pS 15 38 #[J_,J_,J_,J_,J_,J_,J_,J_,J_,J_,J_,J_,J_,J_,J_,J_,N_,N_,N_,N_,N_,N_,N_,N_,N_,N_,N_,N_,N_] HT_.out ?_; refine pS 16 39 #[J_,J_,J_,J_,J_,J_,J_,J_,J_,J_,J_,J_,J_,J_,J_,J_,J_,N_,N_,N_,N_,N_,N_,N_,N_,N_,N_,N_,N_] HT_.out ?_; refine pS 17 40 #[J_,J_,J_,J_,J_,J_,J_,J_,J_,J_,J_,J_,J_,J_,J_,J_,J_,J_,N_,N_,N_,N_,N_,N_,N_,N_,N_,N_,N_] HT_.out ?_; refine pS 18 41 #[J_,J_,J_,J_,J_,J_,J_,J_,J_,J_,J_,J_,J_,J_,J_,J_,J_,J_,J_,N_,N_,N_,N_,N_,N_,N_,N_,N_,N_] HT_.out ?_; refine pS 19 42 #[J_,J_,J_,J_,J_,J_,J_,J_,J_,J_,J_,J_,J_,J_,J_,J_,J_,J_,J_,J_,N_,N_,N_,N_,N_,N_,N_,N_,N_] HT_.out ?_; refine pS 20 43 #[J_,J_,J_,J_,J_,J_,J_,J_,J_,J_,J_,J_,J_,J_,J_,J_,J_,J_,J_,J_,J_,N_,N_,N_,N_,N_,N_,N_,N_] HT_.out ?_; refine pS 21 44 #[J_,J_,J_,J_,J_,J_,J_,J_,J_,J_,J_,J_,J_,J_,J_,J_,J_,J_,J_,J_,J_,J_,N_,N_,N_,N_,N_,N_,N_] HT_.out ?_; refine pS 22 45 #[J_,J_,J_,J_,J_,J_,J_,J_,J_,J_,J_,J_,J_,J_,J_,J_,J_,J_,J_,J_,J_,J_,J_,N_,N_,N_,N_,N_,N_] HT_.out ?_; refine pS 23 46 #[J_,J_,J_,J_,J_,J_,J_,J_,J_,J_,J_,J_,J_,J_,J_,J_,J_,J_,J_,J_,J_,J_,J_,J_,N_,N_,N_,N_,N_] HT_.out ?_; refine pS 24 47 #[J_,J_,J_,J_,J_,J_,J_,J_,J_,J_,J_,J_,J_,J_,J_,J_,J_,J_,J_,J_,J_,J_,J_,J_,J_,N_,N_,N_,N_] HT_.out ?_; refine pS 25 48 #[J_,J_,J_,J_,J_,J_,J_,J_,J_,J_,J_,J_,J_,J_,J_,J_,J_,J_,J_,J_,J_,J_,J_,J_,J_,J_,N_,N_,N_] HT_.out ?_; refine pS 26 49 #[J_,J_,J_,J_,J_,J_,J_,J_,J_,J_,J_,J_,J_,J_,J_,J_,J_,J_,J_,J_,J_,J_,J_,J_,J_,J_,J_,N_,N_] HT_.out ?_; refine qY 27 50 HT_.out ?_; refine qY 28 6 HT_.out ?_; refine done_ (done_of HT_.out (by kernel_rfl)) ?_; go_wp2
   go_ret
   exact ⟨by rw [hah.out]; rfl, below_step HB2.out hbb8⟩
theorem ahead101_nat (W : World) (g base : Nat) (row : Option Nat) (L : List S101) (came : Int) (i j : Nat) (b : Bool) (hS : HSG101 gc W g base row L came) (hE : Env101 asc W0 W base gc) (hAR : AllRd101 W0 L) (hi : i < L.length) (hj : j < L.length) (hb : ahG101 asc (hgt L i) (hgt L j) = b) :
  Calls Try.prog 64 #[.pointer (some ⟨g, 0, none⟩), .int .i64 i, .int .i64 j] W fun e w' => e = .returned (.bool b) ∧ Below W.heap.size W w' := by
 have := ahead101_calls W g base row L came i j hS hE hAR (by omega) (by omega) (by omega) (by omega)
 rwa [rd101, rd101, Int.toNat_natCast, Int.toNat_natCast, hb] at this
section
variable {W : World} {base gr n cap : Nat} {ok : Nat → Prop} {L : List S101}
/-- one thing is put into its place -/
theorem put101 (hR : k101.R 101 W base ok (.slice (some ⟨gr, 0, none⟩) n cap) L) (i : Nat) (hi : i < n) (x : S101) :
  k101.R 101 (((((W.setCell ⟨gr, i * 4, none⟩ (.int .i64 x.f0.t)).setCell ⟨gr, i * 4 + 1, none⟩ (.slice x.f0.h.A x.f0.h.n x.f0.h.c)).setCell ⟨gr, i * 4 + 2, none⟩ (.string x.f0.s)).setCell ⟨gr, i * 4 + 3, none⟩ (.int .i64 x.f1))) base ok (.slice (some ⟨gr, 0, none⟩) n cap) (L.set i x) ∧
  W.grownBy (((((W.setCell ⟨gr, i * 4, none⟩ (.int .i64 x.f0.t)).setCell ⟨gr, i * 4 + 1, none⟩ (.slice x.f0.h.A x.f0.h.n x.f0.h.c)).setCell ⟨gr, i * 4 + 2, none⟩ (.string x.f0.s)).setCell ⟨gr, i * 4 + 3, none⟩ (.int .i64 x.f1))) (some gr) := by
 obtain ⟨c, hcl, hM, hcc, _⟩ := Kd.R_elem hR z101 i (by omega) (by omega)
 rw [Int.toNat_natCast] at hcc
 have h2 : k101.sz = 4 := rfl
 rw [h2] at hcl hcc
 have hd : c.take 0 ++ [.int .i64 x.f0.t, .slice x.f0.h.A x.f0.h.n x.f0.h.c, .string x.f0.s, .int .i64 x.f1] ++ c.drop (0 + 4) = [.int .i64 x.f0.t, .slice x.f0.h.A x.f0.h.n x.f0.h.c, .string x.f0.s, .int .i64 x.f1] := by
  rw [List.take_zero, List.nil_append, List.drop_of_length_le (by omega), List.append_nil]
 have := Kd.R_seg (okp := fun _ => False) hR i (by omega) (by omega) (c := c) (seg := [.int .i64 x.f0.t, .slice x.f0.h.A x.f0.h.n x.f0.h.c, .string x.f0.s, .int .i64 x.f1]) (j := 0) (x' := x) hcl (by rw [Int.toNat_natCast]; exact hcc) (by show 0 + 4 ≤ 4; omega) (by rw [show ([.int .i64 x.f0.t, .slice x.f0.h.A x.f0.h.n x.f0.h.c, .string x.f0.s, .int .i64 x.f1] : List Value).length = 4 from rfl, hd]; exact k101_mkM _ _ _ x) (fun k hk => hk.elim)
 rw [Int.toNat_natCast, h2, Nat.add_zero] at this
 exact this
/-- the world behind an exchange -/
def exW101 (w : World) (gr i j : Nat) (x y : S101) : World := ((((((((w.setCell ⟨gr, i * 4, none⟩ (.int .i64 x.f0.t)).setCell ⟨gr, i * 4 + 1, none⟩ (.slice x.f0.h.A x.f0.h.n x.f0.h.c)).setCell ⟨gr, i * 4 + 2, none⟩ (.string x.f0.s)).setCell ⟨gr, i * 4 + 3, none⟩ (.int .i64 x.f1)).setCell ⟨gr, j * 4, none⟩ (.int .i64 y.f0.t)).setCell ⟨gr, j * 4 + 1, none⟩ (.slice y.f0.h.A y.f0.h.n y.f0.h.c)).setCell ⟨gr, j * 4 + 2, none⟩ (.string y.f0.s)).setCell ⟨gr, j * 4 + 3, none⟩ (.int .i64 y.f1))
/-- two things change places -/
theorem swap101 (hR : k101.R 101 W base ok (.slice (some ⟨gr, 0, none⟩) n cap) L) (i j : Nat) (hi : i < n) (hj : j < n) :
  k101.R 101 (exW101 W gr i j (hgt L j) (hgt L i)) base ok (.slice (some ⟨gr, 0, none⟩) n cap) (swp L i j) ∧ W.grownBy (exW101 W gr i j (hgt L j) (hgt L i)) (some gr) := by
 obtain ⟨h1, g1⟩ := put101 hR i hi (hgt L j)
 obtain ⟨h2, g2⟩ := put101 h1 j hj (hgt L i)
 exact ⟨h2, g1.trans g2⟩
/-- a place: its cells -/
theorem cells101 (hR : k101.R 101 W base ok (.slice (some ⟨gr, 0, none⟩) n cap) L) (i : Nat) (hi : i < n) :
  W.cell? ⟨gr, i * 4, none⟩ = some (.int .i64 (hgt L i).f0.t) ∧ W.cell? ⟨gr, i * 4 + 1, none⟩ = some (.slice (hgt L i).f0.h.A (hgt L i).f0.h.n (hgt L i).f0.h.c) ∧ W.cell? ⟨gr, i * 4 + 2, none⟩ = some (.string (hgt L i).f0.s) ∧ W.cell? ⟨gr, i * 4 + 3, none⟩ = some (.int .i64 (hgt L i).f1) ∧ W.frozen? ⟨gr, i * 4, none⟩ = false ∧ W.frozen? ⟨gr, i * 4 + 1, none⟩ = false ∧ W.frozen? ⟨gr, i * 4 + 2, none⟩ = false ∧ W.frozen? ⟨gr, i * 4 + 3, none⟩ = false := by
 obtain ⟨c, hcl, hM, hcc, hf⟩ := Kd.R_elem hR z101 i (by omega) (by omega)
 obtain rfl := k101_openM hM
 rw [Int.toNat_natCast] at hcc hf
 exact ⟨hcc 0 _ rfl, hcc 1 _ rfl, hcc 2 _ rfl, hcc 3 _ rfl, hf 0, hf 1, hf 2, hf 3⟩
end
end Go.Proofs.Ytaehlbbjbeibfaa.X
end

section
namespace Go.Proofs.Ytaehlbbjbeibfaa.X
open Go.RowKit Go.Proofs.YtaehlbbjbeibfaaW.PrintWords Go.Proofs.YtaehlbbjbeibfaaW.PrintLast Go.Proofs.YtaehlbbjbeibfaaW.PrintMore
attribute [local go_sem] max2_int min2_int max_two min_two max_three min_three max_four min_four
set_option linter.unusedVariables false
set_option linter.unusedSimpArgs false

open Go.Proofs.Ytaehlbbjbeibfaa
variable {asc : Bool} {W0 : World} {gc : Nat}
set_option maxHeartbeats 1000000 in
set_option maxRecDepth 1000000 in
theorem up101_calls (W : World) (g base : Nat) (row : Option Nat) (L : List S101) (came : Int) (k : Nat) (hS : HSG101 gc W g base row L came) (hE : Env101 asc W0 W base gc) (hAR : AllRd101 W0 L) (hk : k < L.length) (hl : L.length < 4398046511104) :
  Calls Try.prog 55 #[.pointer (some ⟨g, 0, none⟩), .int .i64 k] W fun e w' => e = .returned (.tuple #[]) ∧ HSG101 gc w' g base row (upF (ahG101 asc) L k) came ∧ HpTo W w' g base row row := by
 have HS := Aside0.mk hS; have HE0 := Aside0.mk hE; have HAR := Aside0.mk hAR; have HT := Aside0.mk (HpTo.refl W g base row); have HK := Aside0.mk hk; have HL := Aside0.mk hl; clear hS hk hl hE hAR; go_enter Try.func55, Try.ntmps55
 go_wp2
 go_loopw [1] (fun v1 wr => ∃ (j : Nat) (M : List S101), v1 = .int .i64 j ∧ Aside0 (j < M.length) ∧ Aside0 (M.length < 4398046511104) ∧ Aside0 (upF (ahG101 asc) M j = upF (ahG101 asc) L k) ∧ Aside0 (AllRd101 W0 M) ∧ Aside0 (HSG101 gc wr g base row M came) ∧ Aside0 (HpTo W wr g base row row)) (fun v1 _ => (intOf v1).toNat)
 case atStart => exact ⟨k, L, rfl, HK, HL, ⟨rfl⟩, HAR, HS, HT⟩
 case round =>
  clear HS HT HK HL HAR; obtain ⟨j, M, rfl, HK, HL, HU, HAR, HS, HT⟩ := hrel; have hjl := HK.out; have hml := HL.out; have hnn : 0 ≤ (j : Int) := by omega
  have hjb : (j : Int) < 4398046511104 := by omega
  by_cases h0 : j = 0
  ·subst h0; rw [upF] at HU; simp only [Nat.lt_irrefl, false_and, dite_false] at HU; go_wp2
   refine bodyPost_end (results_none rfl _ _ _) rfl ?_; exact ⟨rfl, HU.out ▸ HS.out, HT.out⟩
  ·have hw1 : IntKind.i64.wrap ((j : Int) - 1) = (j : Int) - 1 := by rw [IntKind.wrap_i64]; omega
   obtain ⟨p, hp⟩ : ∃ p, (j - 1) / 2 = p := ⟨_, rfl⟩; have hq : ((j : Int) - 1).tdiv 2 = (p : Int) := by rw [Int.tdiv_eq_ediv_of_nonneg (by omega)]; omega
   have hpj : p < j := by omega
   have h0b : decide ((j : Int) > 0) = true := decide_eq_true (by omega); have h0c : decide (0 < j) = true := decide_eq_true (by omega); obtain ⟨c, hc⟩ : ∃ c, (ahG101 asc) (hgt M j) (hgt M p) = c := ⟨_, rfl⟩; have hpl : p < M.length := by omega
   cases c
   ·rw [upF] at HU; have hno : ¬ (0 < j ∧ (ahG101 asc) (hgt M j) (hgt M ((j - 1) / 2)) = true) := by rw [hp, hc]; simp
    rw [dif_neg hno] at HU; have HC := Aside0.mk hc; clear hno hc; go_wp2_with (go_at_call 64; (with_reducible refine (ahead101_nat _ g base row M came j p _ HS.out (HE0.out.step HT.out.below) HAR.out HK.out hpl HC.out).mono ?_); rintro e w1 ⟨rfl, hb⟩; have n1_ := Aside0.mk (HS.out.below hb); have n2_ := Aside0.mk (HT.out.then_below hb HS.out.size); clear HS HT hb; have HS := n1_; have HT := n2_; clear n1_ n2_)
    refine bodyPost_end (results_none rfl _ _ _) rfl ?_; exact ⟨rfl, HU.out ▸ HS.out, HT.out⟩
   ·rw [upF] at HU; have hyes : 0 < j ∧ (ahG101 asc) (hgt M j) (hgt M ((j - 1) / 2)) = true := by rw [hp, hc]; exact ⟨by omega, rfl⟩
    rw [dif_pos hyes, hp] at HU; have HC := Aside0.mk hc; clear hyes hc; go_upto_region 1 with (go_at_call 64; (with_reducible refine (ahead101_nat _ g base row M came j p _ HS.out (HE0.out.step HT.out.below) HAR.out HK.out hpl HC.out).mono ?_); rintro e w1 ⟨rfl, hb⟩; have n1_ := Aside0.mk (HS.out.below hb); have n2_ := Aside0.mk (HT.out.then_below hb HS.out.size); clear HS HT hb; have HS := n1_; have HT := n2_; clear n1_ n2_)
    obtain ⟨v, hv, hb, hR, hg⟩ := HS.out; obtain ⟨gr, cap, rfl, hgr, hgl, _⟩ := Kd.R_form hR (by omega); obtain ⟨x0, x1, x2, x3, xf0, xf1, xf2, xf3⟩ := cells101 hR j hjl; obtain ⟨y0, y1, y2, y3, yf0, yf1, yf2, yf3⟩ := cells101 hR p hpl; have c0 : w1.cell? ⟨g, 0, none⟩ = some (.slice (some ⟨gr, 0, none⟩) M.length cap) := (blk_cell hb 0).trans rfl; have HR := Aside0.mk hR; have HB := Aside0.mk hb; have HG := Aside0.mk hg; have HV := Aside0.mk hv; obtain ⟨SW, SG⟩ := swap101 hR j p hjl hpl; have HSW := Aside0.mk SW; have HSG := Aside0.mk SG; obtain ⟨xj, hxj⟩ : ∃ x, hgt M j = x := ⟨_, rfl⟩; obtain ⟨xp, hxp⟩ : ∃ x, hgt M p = x := ⟨_, rfl⟩; rw [hxj] at x0 x1 x2 x3 HSW HSG; rw [hxp] at y0 y1 y2 y3 HSW HSG; have q1 : (j : Int) < (M.length : Int) := by omega
    have q2 : (p : Int) < (M.length : Int) := by omega
    have q3 : 0 ≤ (p : Int) := by omega
    clear hR hb hg hv SW SG hxj hxp hgr hgl; go_region
    have n1_ : Aside0 (HSG101 gc (exW101 w1 gr j p xp xj).drew g base row (swp M j p) came) :=
     ⟨_, HV.out, blk_drew (blk_grown HB.out HSG.out (fun e => HR.out.1 gr rfl (Option.some.inj e).symm)), Kd.R_drew HSW.out, HG.out⟩
    have n2_ : Aside0 (HpTo W (exW101 w1 gr j p xp xj).drew g base row row) :=
     ⟨(HT.out.then_grown HS.out.size (fun k hk => (HS.out.row_ k hk).1) (show w1.grownBy (exW101 w1 gr j p xp xj) row from HV.out ▸ HSG.out) (.inl rfl)).then_below (below_drew (Below.refl _ _)) (Nat.le_trans HS.out.size HSG.out.size)⟩
    clear x0 x1 x2 x3 y0 y1 y2 y3 xf0 xf1 xf2 xf3 yf0 yf1 yf2 yf3 c0 HR HB HG HV HSW HSG HS HT; change Aside0 (HSG101 gc _ g base row (swp M j p) came) at n1_; generalize hW : (exW101 w1 gr j p xp xj).drew = w2 at n1_ n2_; unfold exW101 at hW; rw [hW]; clear hW; go_wp2
    go_roundw
    case measure => simp [intOf]; omega
    case rel => exact ⟨p, swp M j p, rfl, ⟨by rw [swp_len]; exact hpl⟩, ⟨by rw [swp_len]; exact hml⟩, HU, ⟨HAR.out.perm (swp_perm M j p hjl hpl)⟩, n1_, n2_⟩
end Go.Proofs.Ytaehlbbjbeibfaa.X
end

section
namespace Go.Proofs.Ytaehlbbjbeibfaa.X
open Go.RowKit Go.Proofs.YtaehlbbjbeibfaaW.PrintWords Go.Proofs.YtaehlbbjbeibfaaW.PrintLast Go.Proofs.YtaehlbbjbeibfaaW.PrintMore
attribute [local go_sem] max2_int min2_int max_two min_two max_three min_three max_four min_four
set_option linter.unusedVariables false
set_option linter.unusedSimpArgs false

open Go.Proofs.Ytaehlbbjbeibfaa
variable {asc : Bool} {W0 : World} {gc : Nat}
def hpush101.T3 : Bool × List (List Nat × List Nat) := (true, [([], []), ([], []), ([1], [1]), ([2], [2]), ([3], [3]), ([4], [4]), ([], []), ([], []), ([7], [7]), ([8], [8]), ([9], [9]), ([6, 10], [6, 10]), ([11], [11]), ([5, 12], [5, 12]), ([0, 0, 1, 2, 3, 4, 5, 6, 7, 8, 9, 10, 11, 12, 13], [0]), ([14, 0, 1, 2, 3, 4, 5, 6, 7, 8, 9, 10, 11, 12, 13], [14]), ([15, 0, 1, 2, 3, 4, 5, 6, 7, 8, 9, 10, 11, 12, 13], [15]), ([16, 13, 13, 0, 1, 2, 3, 4, 5, 6, 7, 8, 9, 10, 11, 12, 13], [13, 16])])
def hpush101.B3 : List Nat := [0, 0, 2, 6, 14, 30, 0, 0, 128, 384, 896, 1984, 4032, 8190, 16383, 32767, 65535, 131071]
theorem hpush101.tab3 : rtab .any (opsOf Try.f46 3) = hpush101.T3 := by kernel_rfl
theorem hpush101.bits3 : waitsOk hpush101.T3.2 hpush101.B3 = true := by kernel_rfl
def mk101 (x : F26) (c : Int) : S101 := ⟨x, c⟩
theorem keepA2 {wr : World} {g gb : Nat} {a b c d e f : Value} {t u : TypeId} (hb : wr.heap[g]? = some (.cells #[a, b, c] t (0, 0))) (hk : wr.heap[gb]? = some (.cells #[d, e, f] u (0, 0))) (o : Obj) : (wr.alloc o).drew.cell? ⟨g, 0, none⟩ = some a ∧ (wr.alloc o).drew.cell? ⟨g, 2, none⟩ = some c ∧ (wr.alloc o).drew.frozen? ⟨g, 0, none⟩ = false ∧ (wr.alloc o).drew.cell? ⟨gb, 0, none⟩ = some d ∧ (wr.alloc o).drew.cell? ⟨gb, 1, none⟩ = some e ∧ (wr.alloc o).drew.cell? ⟨gb, 2, none⟩ = some f := by
 have h2 := blk_drew (blk_alloc hk o)
 have h1 := keepA hb o
 exact ⟨h1.1, h1.2.1, h1.2.2, (blk_cell h2 0).trans rfl, (blk_cell h2 1).trans rfl, (blk_cell h2 2).trans rfl⟩
theorem keepS2 {wr w9 : World} {g gb : Nat} {row : Option Nat} {a b c d e f : Value} {t u : TypeId} (hb : wr.heap[g]? = some (.cells #[a, b, c] t (0, 0))) (hk : wr.heap[gb]? = some (.cells #[d, e, f] u (0, 0))) (hg2 : wr.drew.grownBy w9 row) (hne : some g ≠ row) (hnb : some gb ≠ row) : w9.cell? ⟨g, 0, none⟩ = some a ∧ w9.cell? ⟨g, 2, none⟩ = some c ∧ w9.frozen? ⟨g, 0, none⟩ = false ∧ w9.cell? ⟨gb, 0, none⟩ = some d ∧ w9.cell? ⟨gb, 1, none⟩ = some e ∧ w9.cell? ⟨gb, 2, none⟩ = some f := by
 have h2 := blk_grown (blk_drew hk) hg2 hnb
 have h1 := keepS hb hg2 hne
 exact ⟨h1.1, h1.2.1, h1.2.2, (blk_cell h2 0).trans rfl, (blk_cell h2 1).trans rfl, (blk_cell h2 2).trans rfl⟩
set_option maxHeartbeats 1000000 in
set_option maxRecDepth 1000000 in
theorem push101_calls (W : World) (g base : Nat) (row : Option Nat) (L : List S101) (came : Int) (A : Option Addr) (c : Nat) (xs : List F26) (hS : HSG101 gc W g base row L came) (hE : Env101 asc W0 W base gc) (hAR : AllRd101 W0 L) (hXR : ∀ x ∈ xs, Rd101 W0 x) (hC : ∀ W', KeepBut W W' g row → Kd.C kF26 W' A xs.length xs) (hc0 : 0 ≤ came) (hc1 : came + xs.length < 1099511627776) (hl : L.length + xs.length < 1099511627776) (hp : Hp (ahG101 asc) L) :
  Calls Try.prog 46 #[.pointer (some ⟨g, 0, none⟩), .slice A xs.length c] W fun e w' => e = .returned (.tuple #[]) ∧ ∃ row', HSG101 gc w' g base row' (pushL (ahG101 asc) mk101 L came xs) (came + xs.length) ∧ HpTo W w' g base row row' := by
 have HS := Aside0.mk hS; have HE0 := Aside0.mk hE; have HAR := Aside0.mk hAR; have HXR := Aside0.mk hXR; have HT := Aside0.mk (HpTo.refl W g base row); have HC := Aside0.mk hC; have HL := Aside0.mk hl; have HP := Aside0.mk hp; have HA := Aside0.mk (show 0 ≤ came ∧ came + xs.length < 1099511627776 from ⟨hc0, hc1⟩); clear hS hC hl hp hc0 hc1 hE hAR hXR; go_enter Try.func46, Try.ntmps46
 go_wp2
 go_loopw [8] (fun v8 wr => ∃ (i : Nat) (M : List S101) (row1 : Option Nat), v8 = .int .i64 i ∧ i ≤ xs.length ∧ Aside0 (AllRd101 W0 M) ∧ Aside0 (M.length = L.length + i) ∧ Aside0 (Hp (ahG101 asc) M) ∧ Aside0 (pushL (ahG101 asc) mk101 M (came + i) (xs.drop i) = pushL (ahG101 asc) mk101 L came xs) ∧ Aside0 (HSG101 gc wr g base row1 M (came + i)) ∧ Aside0 (HpTo W wr g base row row1)) (fun v8 _ => xs.length - (intOf v8).toNat)
 case atStart => exact ⟨0, L, row, rfl, by omega, HAR, ⟨by omega⟩, HP, ⟨by simp⟩, ⟨by simpa using HS.out⟩, HT⟩
 case round =>
  clear HS HT HP HAR; obtain ⟨i, M, row1, rfl, hi, HAR, HM, HP, HU, HS, HT⟩ := hrel; by_cases hlt : i < xs.length
  ·have hb1 : (i : Int) < (xs.length : Int) := by omega
   have hb0 : 0 ≤ (i : Int) := by omega
   obtain ⟨ad, rfl, hx0, hx1, hx2⟩ := at_F26 (HC.out _ HT.out.keep) (i : Int) hb0 hb1; rw [Int.toNat_natCast] at hx0 hx1 hx2; obtain ⟨x, hx⟩ : ∃ x, xs.getD i zF26 = x := ⟨_, rfl⟩; rw [hx] at hx0 hx1 hx2; have HX := Aside0.mk (show Rd101 W0 x from HXR.out x (by rw [← hx, List.getD_eq_getElem?_getD, List.getElem?_eq_getElem hlt]; exact List.getElem_mem hlt))
   have hdrop : xs.drop i = x :: xs.drop (i + 1) := by
    rw [List.drop_eq_getElem_cons hlt]; congr 1; rw [← hx]; rw [List.getD_eq_getElem?_getD, List.getElem?_eq_getElem hlt]; rfl
   obtain ⟨ci, hci⟩ : ∃ ci : Int, came + i = ci := ⟨_, rfl⟩; have hU := HU.out; rw [hdrop, hci] at hU; have HU2 : Aside0 (pushL (ahG101 asc) mk101 (pushF (ahG101 asc) M (mk101 x ci)) (ci + 1) (xs.drop (i + 1)) = pushL (ahG101 asc) mk101 L came xs) := ⟨hU⟩; rw [hci] at HS; clear hx hdrop hU HU; have hwi : IntKind.i64.wrap ((i : Int) + 1) = (i : Int) + 1 := by have := HL.out; rw [IntKind.wrap_i64]; omega
   go_upto_region 3 with (fail)
   have HKB := Aside0.mk (blk_new wr (.cells #[.int .i64 x.t, .slice x.h.A x.h.n x.h.c, .string x.s] 26)); have n1_ := Aside0.mk (HS.out.below (below_alloc (Below.refl _ _) (.cells #[.int .i64 x.t, .slice x.h.A x.h.n x.h.c, .string x.s] 26))); have n2_ := Aside0.mk (HT.out.then_below (below_alloc (Below.refl _ _) (.cells #[.int .i64 x.t, .slice x.h.A x.h.n x.h.c, .string x.s] 26)) HS.out.size); have HNB := Aside0.mk (show ∀ k, row1 = some k → wr.heap.size ≠ k from fun k hk => by have := (HS.out.row_ k hk).2.1; omega); clear HS HT hx0 hx1 hx2; have HS := n1_; have HT := n2_; clear n1_ n2_; generalize wr.alloc (.cells #[.int .i64 x.t, .slice x.h.A x.h.n x.h.c, .string x.s] 26) = wr2 at HKB HS HT ⊢; generalize wr.heap.size = gb at HKB HNB ⊢; have k0 : wr2.cell? ⟨gb, 0, none⟩ = some (.int .i64 x.t) := (blk_cell HKB.out 0).trans rfl; have k1 : wr2.cell? ⟨gb, 1, none⟩ = some (.slice x.h.A x.h.n x.h.c) := (blk_cell HKB.out 1).trans rfl; have k2 : wr2.cell? ⟨gb, 2, none⟩ = some (.string x.s) := (blk_cell HKB.out 2).trans rfl; obtain ⟨v, hv, hb, hR, hg⟩ := HS.out; obtain ⟨A1, cap, rfl⟩ := Kd.R_slice hR; have c0 : wr2.cell? ⟨g, 0, none⟩ = some (.slice A1 M.length cap) := (blk_cell hb 0).trans rfl; have c2 : wr2.cell? ⟨g, 2, none⟩ = some (.int .i64 ci) := (blk_cell hb 2).trans rfl; have fz : wr2.frozen? ⟨g, 0, none⟩ = false := blk_frozen hb 0; have HV := Aside0.mk hv; have HB := Aside0.mk hb; have HR := Aside0.mk hR; have HG := Aside0.mk hg; have HSZ := Aside0.mk HS.out.lt; clear hv hb hR hg; have hne : some g ≠ (Value.slice A1 M.length cap).ownBlock := fun e => HR.out.1 g e.symm rfl
   have hnw : g < wr2.heap.size := HSZ.out.1; have hbs : base ≤ wr2.heap.size := HS.out.size; have hml : (M.length + 1) * 56 ≤ 140737488355328 := by have := HM.out; have := HL.out; omega
   have HNE := Aside0.mk (And.intro hne (And.intro hnw (And.intro hbs hml))); clear hne hnw hbs hml; refine start_ (n := 18) (S := fun w' => w'.cell? ⟨g, 0, none⟩ = some (.slice A1 M.length cap) ∧ w'.cell? ⟨g, 2, none⟩ = some (.int .i64 ci) ∧ w'.frozen? ⟨g, 0, none⟩ = false ∧ w'.cell? ⟨gb, 0, none⟩ = some (.int .i64 x.t) ∧ w'.cell? ⟨gb, 1, none⟩ = some (.slice x.h.A x.h.n x.h.c) ∧ w'.cell? ⟨gb, 2, none⟩ = some (.string x.s)) (ds := [17]) #[N_,N_,N_,N_,N_,N_,N_,N_,N_,N_,N_,N_,N_,N_,N_,N_,N_,N_] (by kernel_rfl) rfl rfl ⟨c0, c2, fz, k0, k1, k2⟩ (fun hHeld => ?_); refine with_tabW hpush101.tab3 hpush101.bits3 (fun HT_ HW_ => ?_); clear c0 c2 fz k0 k1 k2; refine qY 0 12 HT_.out ?_; refine qY 1 13 HT_.out ?_; refine qY 2 14 HT_.out ?_; refine qY 3 15 HT_.out ?_; refine qY 4 16 HT_.out ?_; refine tY 5 17 HT_.out HW_.out hHeld ?_; refine tY 6 18 HT_.out HW_.out hHeld ?_; refine qY 7 19 HT_.out ?_; refine qY 8 20 HT_.out ?_; refine qY 9 21 HT_.out ?_; refine tY 10 22 HT_.out HW_.out hHeld ?_; refine qY 11 23 HT_.out ?_; refine one_ (i := 12) (N := some 24) #[J_,J_,J_,J_,J_,J_,J_,J_,J_,J_,J_,J_,J_,N_,N_,N_,N_,N_] rfl rfl (one_of HT_.out (by kernel_rfl)) (by decide) (fun K hK => ?_); refine event_step (by rfl) (w1 := wr2.drew.alloc (.cells #[.int .i64 x.t, .slice x.h.A x.h.n x.h.c, .string x.s, .int .i64 ci] 101)) (v := .slice (some ⟨wr2.drew.heap.size, 0, none⟩) 1 1) (by first | (go_simp; done) | (go_simp; rfl)) ?_; refine hK.out _ _ (keepA2 HB.out HKB.out _) (fun hHeld => ?_); clear hK K; refine norm_ (a' := ?_) ?_ ?_; rotate_left
   ·show Act.put _ (some 24) _ = _; simp only [Act.put, List.setIfInBounds_toArray, List.set_cons_zero, List.set_cons_succ, i64_w, i32_w]; rfl
   refine one_ (i := 13) (N := some 25) #[J_,J_,J_,J_,J_,J_,J_,J_,J_,J_,J_,J_,J_,J_,N_,N_,N_,N_] rfl rfl (one_of HT_.out (by kernel_rfl)) (by decide) (fun K hK => ?_); refine Kd.R_append_step k101 (w0 := wr2) (W := wr2.drew) base (by rfl) (.tmp 17) (.tmp 24) 94 101 (.agg #[.int .i64 0, .slice none 0 0, .string ⟨#[]⟩, .int .i64 0]) 56 (by rfl) Try.underlying94 info101 rfl (by decide) (by omega) (.slice A1 M.length cap) M (mk101 x ci) [.int .i64 x.t, .slice x.h.A x.h.n x.h.c, .string x.s, .int .i64 ci] (fun k_ => k_ ≠ g) (fun _ => False) (by rfl) (by rfl) (k101_mkM _ _ _ (mk101 x ci)) (fun _ hk => hk.elim) (fun k_ hk_ => Nat.ne_of_gt (Nat.lt_of_lt_of_le HNE.out.2.1 hk_)) (Kd.R_drew HR.out) (below_drew (Below.refl _ _)) HNE.out.2.2.1 HNE.out.2.2.2 ?_; intro v2 w9 ho hb hg2 hat; obtain ⟨A2, c2, rfl⟩ := Kd.R_slice ho; refine hK.out _ _ (keepS2 HB.out HKB.out hg2 HNE.out.1 (fun e => HNB.out gb (HV.out ▸ e.symm) rfl)) (fun hHeld => ?_); clear hK K; refine norm_ (a' := ?_) ?_ ?_; rotate_left
   ·show Act.put _ (some 25) _ = _; simp only [Act.put, List.setIfInBounds_toArray, List.set_cons_zero, List.set_cons_succ, i64_w, i32_w]; rfl
   refine qY 14 26 HT_.out ?_; refine qY 15 27 HT_.out ?_; refine qY 16 28 HT_.out ?_; refine last_ (i := 17) (N := none) #[J_,J_,J_,J_,J_,J_,J_,J_,J_,J_,J_,J_,J_,J_,J_,J_,J_,J_] rfl rfl (one_of HT_.out (by kernel_rfl)) (by decide) (fun K hK => ?_); obtain ⟨s0, s1, s2, s3, s4, s5⟩ := hHeld; refine x_store_step (by rfl) rfl (w1 := w9.setCell ⟨g, 0, none⟩ (.slice A2 (M ++ [mk101 x ci]).length c2)) (by first | (go_simp; done) | (go_simp; rfl)) ?_; refine hK.out _ _ ?_; clear hK K; refine done_ (done_of HT_.out (by kernel_rfl)) ?_; have g1 : (w9.setCell ⟨g, 0, none⟩ (.slice A2 (M ++ [mk101 x ci]).length c2)).heap[g]? = some (.cells #[.slice A2 (M ++ [mk101 x ci]).length c2, .func (.func 39) #[] #[.pointer (some ⟨gc, 0, none⟩)], .int .i64 ci] 98 (0, 0)) := blk_put (blk_grown (blk_drew HB.out) hg2 HNE.out.1) 0 _ rfl; have g2 := Kd.R_far (p := ⟨g, 0, none⟩) ho (fun _ h => h) (.slice A2 (M ++ [mk101 x ci]).length c2); have g3 := ((HT.out.then_below (below_drew (Below.refl _ _)) HNE.out.2.2.1).then_grown (W2 := w9) (row2 := (Value.slice A2 (M ++ [mk101 x ci]).length c2).ownBlock) HNE.out.2.2.1 (fun k hk => (HS.out.row_ k hk).1) (HV.out ▸ hg2) (HV.out ▸ hat)).then_set HG.out 0 (.slice A2 (M ++ [mk101 x ci]).length c2); have hrow2 : ∃ r2, (Value.slice A2 (M ++ [mk101 x ci]).length c2).ownBlock = r2 := ⟨_, rfl⟩; obtain ⟨r2, hr2⟩ := hrow2; rw [hr2] at g3; have HR2 := Aside0.mk hr2; generalize w9.setCell ⟨g, 0, none⟩ (.slice A2 (M ++ [mk101 x ci]).length c2) = w10 at g1 g2 g3 ⊢; clear ho hb hg2 hat s0 s1 s2 s3 s4 s5 HKB HNB HR HB HV HS HNE HSZ HT; have d2 : w10.cell? ⟨g, 2, none⟩ = some (.int .i64 ci) := (blk_cell g1 2).trans rfl; have fz2 : w10.frozen? ⟨g, 2, none⟩ = false := blk_frozen g1 2; have hw4 : IntKind.i64.wrap (ci + 1) = ci + 1 := by have := HA.out; rw [IntKind.wrap_i64]; omega
   have G1 := Aside0.mk (show (w10.setCell ⟨g, 2, none⟩ (.int .i64 (ci + 1))).heap[g]? = some (.cells #[.slice A2 (M ++ [mk101 x ci]).length c2, .func (.func 39) #[] #[.pointer (some ⟨gc, 0, none⟩)], .int .i64 (ci + 1)] 98 (0, 0)) from blk_put g1 2 _ rfl); have G2 := Aside0.mk (Kd.R_far (p := ⟨g, 2, none⟩) g2 (fun _ h => h) (.int .i64 (ci + 1))); have G3 := Aside0.mk (g3.then_set HG.out 2 (.int .i64 (ci + 1))); clear g1 g2 g3 hr2; go_upto_region 5 with (fail)
   generalize w10.setCell ⟨g, 2, none⟩ (.int .i64 (ci + 1)) = w11 at G1 G2 G3 ⊢; clear d2 fz2 hw4; have HS11 : Aside0 (HSG101 gc w11 g base r2 (M ++ [mk101 x ci]) (ci + 1)) := ⟨_, HR2.out, G1.out, G2.out, HG.out⟩; have e0 : w11.cell? ⟨g, 0, none⟩ = some (.slice A2 (M ++ [mk101 x ci]).length c2) := (blk_cell G1.out 0).trans rfl; have hlen : (M ++ [mk101 x ci]).length = M.length + 1 := by simp
   rw [hlen] at e0; have hw5 : IntKind.i64.wrap (((M.length + 1 : Nat) : Int) - 1) = (M.length : Int) := by have := HM.out; have := HL.out; rw [IntKind.wrap_i64]; omega
   clear G1 G2; have hw6 : IntKind.i64.wrap (M.length : Int) = (M.length : Int) := by have := HM.out; have := HL.out; rw [IntKind.wrap_i64]; omega
   have HS12 := Aside0.mk (HS11.out.below (below_drew (Below.refl _ _))); have HT12 := Aside0.mk (G3.out.then_below (below_drew (Below.refl _ _)) HS11.out.size); have HK12 := Aside0.mk (show M.length < (M ++ [mk101 x ci]).length ∧ (M ++ [mk101 x ci]).length < 4398046511104 by have := HM.out; have := HL.out; omega); have HAR2 := Aside0.mk (show AllRd101 W0 (M ++ [mk101 x ci]) from HAR.out.snoc HX.out); clear hlen; go_region_with (go_at_call 55; (with_reducible refine (up101_calls _ g base r2 (M ++ [mk101 x ci]) (ci + 1) M.length HS12.out (HE0.out.step HT12.out.below) HAR2.out HK12.out.1 HK12.out.2).mono ?_); rintro e w12 ⟨rfl, hS13, hT13⟩; have HS13 := Aside0.mk hS13; have HT13 := Aside0.mk (HT12.out.trans hT13); clear hS13 hT13)
   go_wp2
   go_roundw
   case measure => simp only [intOf, Array.getD_eq_getD_getElem?]; simp; omega
   case rel =>
    refine ⟨i + 1, pushF (ahG101 asc) M (mk101 x ci), r2, by go_num, by omega, ⟨HAR2.out.perm (pushF_spec (hordG101 asc) M _ HP.out).2⟩, ⟨?_⟩, ⟨(pushF_spec (hordG101 asc) M _ HP.out).1⟩, ⟨?_⟩, ⟨?_⟩, HT13⟩
    ·rw [pushF_len (hordG101 asc) M _ HP.out, HM.out]; omega
    ·rw [← HU2.out]; congr 1; omega
    ·have := HS13.out; rw [show came + ((i + 1 : Nat) : Int) = ci + 1 by rw [← hci]; push_cast; omega]; exact this
  ·have hie : i = xs.length := by omega
   subst hie; have hb1 : decide ((xs.length : Int) < (xs.length : Int)) = false := decide_eq_false (by omega); have hU := HU.out; rw [List.drop_length] at hU; have HU2 : Aside0 (M = pushL (ahG101 asc) mk101 L came xs) := ⟨hU⟩; clear hU HU hlt; go_wp2
   refine bodyPost_end (results_none rfl _ _ _) rfl ?_; exact ⟨rfl, row1, HU2.out ▸ HS.out, HT.out⟩
end Go.Proofs.Ytaehlbbjbeibfaa.X
end

section
namespace Go.Proofs.Ytaehlbbjbeibfaa.X
open Go.RowKit Go.Proofs.YtaehlbbjbeibfaaW.PrintWords Go.Proofs.YtaehlbbjbeibfaaW.PrintLast Go.Proofs.YtaehlbbjbeibfaaW.PrintMore
attribute [local go_sem] max2_int min2_int max_two min_two max_three min_three max_four min_four
set_option linter.unusedVariables false
set_option linter.unusedSimpArgs false

open Go.Proofs.Ytaehlbbjbeibfaa
variable {asc : Bool} {W0 : World} {gc : Nat}
set_option maxHeartbeats 1000000 in
set_option maxRecDepth 1000000 in
theorem new101_calls (W : World) (A : Option Addr) (c : Nat) (xs : List F26) (hC : Kd.C kF26 W A xs.length xs) (hbx : Box101 asc W W.heap.size gc) (hW0 : Below W0.heap.size W0 W) (hXR : ∀ x ∈ xs, Rd101 W0 x) (hl : xs.length < 1099511627776) :
  Calls Try.prog 33 #[.func (.func 39) #[] #[.pointer (some ⟨gc, 0, none⟩)], .slice A xs.length c] W fun e w' => e = .returned (.pointer (some ⟨W.heap.size, 0, none⟩)) ∧ ∃ row', HSG101 gc w' W.heap.size W.heap.size row' (pushL (ahG101 asc) mk101 [] 0 xs) xs.length ∧ Below W.heap.size W w' := by
 have hb := blk_new W (.cells #[.slice none 0 0, .func (.func 39) #[] #[.pointer (some ⟨gc, 0, none⟩)], .int .i64 0] 98); have HB := Aside0.mk (below_alloc (Below.refl W.heap.size W) (.cells #[.slice none 0 0, .func (.func 39) #[] #[.pointer (some ⟨gc, 0, none⟩)], .int .i64 0] 98)); have HS : Aside0 (HSG101 gc (W.alloc (.cells #[.slice none 0 0, .func (.func 39) #[] #[.pointer (some ⟨gc, 0, none⟩)], .int .i64 0] 98)) W.heap.size W.heap.size none [] 0) := ⟨_, rfl, hb, Kd.R_nil _ _ _ _ _, Nat.le_refl _⟩; have HP := Aside0.mk (push101_calls (asc := asc) (W0 := W0) (gc := gc) _ W.heap.size W.heap.size none [] 0 A c xs HS.out ((EnvE.mk hbx hW0 hW0.size).step HB.out) (fun x hx => by simp at hx) hXR (C_keepB (fun h => h) (Kd.C_below hC HB.out) (C_ltB hC (by decide) (Nat.le_refl _) (fun k hk => by cases hk))) (by omega) (by rw [Int.zero_add]; omega) (by rw [List.length_nil, Nat.zero_add]; exact hl) Hp.nil); clear hb hC HS; go_enter Try.func33, Try.ntmps33
 go_wp2_with (go_at_call 46; (with_reducible refine HP.out.mono ?_); rintro e w1 ⟨rfl, row1, hS1, hT1⟩; have HS1 := Aside0.mk hS1; have HT1 := Aside0.mk hT1; clear hS1 hT1)
 go_ret
 exact ⟨rfl, row1, by have := HS1.out; rwa [Int.zero_add] at this, HB.out.trans HT1.out.below⟩
end Go.Proofs.Ytaehlbbjbeibfaa.X
end

section
namespace Go.Proofs.Ytaehlbbjbeibfaa.X
open Go.RowKit Go.Proofs.YtaehlbbjbeibfaaW.PrintWords Go.Proofs.YtaehlbbjbeibfaaW.PrintLast Go.Proofs.YtaehlbbjbeibfaaW.PrintMore
attribute [local go_sem] max2_int min2_int max_two min_two max_three min_three max_four min_four
set_option linter.unusedVariables false
set_option linter.unusedSimpArgs false

open Go.Proofs.Ytaehlbbjbeibfaa Go.Proofs.Ytaehlbbjbeibfaa.B
variable {asc : Bool} {W0 : World} {gc : Nat}
set_option maxHeartbeats 1000000 in
set_option maxRecDepth 1000000 in
theorem peek101_some (W : World) (g base : Nat) (row : Option Nat) (L : List S101) (came : Int) (hS : HSG101 gc W g base row L came) (hl : 0 < L.length) :
  Calls Try.prog 34 #[.pointer (some ⟨g, 0, none⟩)] W fun e w' => e = .returned (.tuple #[.agg #[.int .i64 (hgt L 0).f0.t, .slice (hgt L 0).f0.h.A (hgt L 0).f0.h.n (hgt L 0).f0.h.c, .string (hgt L 0).f0.s], .bool true]) ∧ Below W.heap.size W w' := by
 have HB := Aside0.mk (below_alloc (Below.refl W.heap.size W) (.cells #[.int .i64 0, .slice none 0 0, .string ⟨#[]⟩] 26)); have HS := Aside0.mk (hS.below HB.out); have HK := Aside0.mk (blk_new W (.cells #[.int .i64 0, .slice none 0 0, .string ⟨#[]⟩] 26)); have HL := Aside0.mk hl; clear hS hl; go_enter Try.func34, Try.ntmps34
 go_upto_region 1 with (fail)
 generalize hgb : W.heap.size = gb at HK ⊢; generalize W.alloc (.cells #[.int .i64 0, .slice none 0 0, .string ⟨#[]⟩] 26) = w1 at HB HS HK ⊢; have HGB := Aside0.mk hgb; clear hgb; have k0 : w1.cell? ⟨gb, 0, none⟩ = some (.int .i64 0) := (blk_cell HK.out 0).trans rfl; have k1 : w1.cell? ⟨gb, 1, none⟩ = some (.slice none 0 0) := (blk_cell HK.out 1).trans rfl; have k2 : w1.cell? ⟨gb, 2, none⟩ = some (.string ⟨#[]⟩) := (blk_cell HK.out 2).trans rfl; have kf0 : w1.frozen? ⟨gb, 0, none⟩ = false := blk_frozen HK.out 0; have kf1 : w1.frozen? ⟨gb, 1, none⟩ = false := blk_frozen HK.out 1; have kf2 : w1.frozen? ⟨gb, 2, none⟩ = false := blk_frozen HK.out 2; obtain ⟨v, hv, hb, hR, hg⟩ := HS.out; obtain ⟨gr, cap, rfl, hgr, hgl, _⟩ := Kd.R_form hR HL.out; obtain ⟨x0, x1, x2, x3, xf0, xf1, xf2, xf3⟩ := cells101 hR 0 HL.out; have c0 : w1.cell? ⟨g, 0, none⟩ = some (.slice (some ⟨gr, 0, none⟩) L.length cap) := (blk_cell hb 0).trans rfl; rw [Nat.zero_mul] at x0 x1 x2; rw [Nat.zero_add] at x1 x2; have q1 : (0 : Int) < (L.length : Int) := Int.natCast_pos.2 HL.out; have q2 : ((L.length : Int) == 0) = false := beq_eq_false_iff_ne.mpr (by omega); clear hv hb hR hg hgr hgl x3 xf0 xf1 xf2 xf3; go_wp2
 refine bodyPost_ret (results_list (rs := [.cell 2 26, .tmp 3]) rfl (by simp) (.cell gb 26 #[.int .i64 (hgt L 0).f0.t, .slice (hgt L 0).f0.h.A (hgt L 0).f0.h.n (hgt L 0).f0.h.c, .string (hgt L 0).f0.s] (0, 0) _ rfl (blk_put (blk_put (blk_put HK.out 0 _ rfl) 1 _ rfl) 2 _ rfl) Try.underlying26 rfl (by kernel_rfl) (.tmp .nil))) rfl ?_; exact ⟨rfl, ((HB.out.setCell (p := ⟨gb, 0, none⟩) (Nat.le_of_eq HGB.out) _).setCell (p := ⟨gb, 1, none⟩) (Nat.le_of_eq HGB.out) _).setCell (p := ⟨gb, 2, none⟩) (Nat.le_of_eq HGB.out) _⟩
set_option maxHeartbeats 1000000 in
set_option maxRecDepth 1000000 in
theorem peek101_none (W : World) (g base : Nat) (row : Option Nat) (L : List S101) (came : Int) (hS : HSG101 gc W g base row L came) (hl : L.length = 0) :
  Calls Try.prog 34 #[.pointer (some ⟨g, 0, none⟩)] W fun e w' => e = .returned (.tuple #[.agg #[.int .i64 0, .slice none 0 0, .string ⟨#[]⟩], .bool false]) ∧ Below W.heap.size W w' := by
 have HB := Aside0.mk (below_alloc (Below.refl W.heap.size W) (.cells #[.int .i64 0, .slice none 0 0, .string ⟨#[]⟩] 26)); have HS := Aside0.mk (hS.below HB.out); have HK := Aside0.mk (blk_new W (.cells #[.int .i64 0, .slice none 0 0, .string ⟨#[]⟩] 26)); have HL := Aside0.mk hl; clear hS hl; go_enter Try.func34, Try.ntmps34
 go_upto_region 1 with (fail)
 generalize hgb : W.heap.size = gb at HK ⊢; generalize W.alloc (.cells #[.int .i64 0, .slice none 0 0, .string ⟨#[]⟩] 26) = w1 at HB HS HK ⊢; have HGB := Aside0.mk hgb; clear hgb; have k0 : w1.cell? ⟨gb, 0, none⟩ = some (.int .i64 0) := (blk_cell HK.out 0).trans rfl; have k1 : w1.cell? ⟨gb, 1, none⟩ = some (.slice none 0 0) := (blk_cell HK.out 1).trans rfl; have k2 : w1.cell? ⟨gb, 2, none⟩ = some (.string ⟨#[]⟩) := (blk_cell HK.out 2).trans rfl; have kf0 : w1.frozen? ⟨gb, 0, none⟩ = false := blk_frozen HK.out 0; have kf1 : w1.frozen? ⟨gb, 1, none⟩ = false := blk_frozen HK.out 1; have kf2 : w1.frozen? ⟨gb, 2, none⟩ = false := blk_frozen HK.out 2; obtain ⟨v, hv, hb, hR, hg⟩ := HS.out; obtain ⟨A, cap, rfl⟩ := Kd.R_slice hR; have c0 : w1.cell? ⟨g, 0, none⟩ = some (.slice A 0 cap) := by have := (blk_cell hb 0).trans (rfl : _ = some (Value.slice A L.length cap)); rwa [HL.out] at this
 clear hv hb hR hg; go_wp2
 refine bodyPost_ret (results_list (rs := [.cell 2 26, .tmp 3]) rfl (by simp) (.cell gb 26 #[.int .i64 0, .slice none 0 0, .string ⟨#[]⟩] (0, 0) _ rfl (blk_put (blk_put (blk_put HK.out 0 _ rfl) 1 _ rfl) 2 _ rfl) Try.underlying26 rfl (by kernel_rfl) (.tmp .nil))) rfl ?_; exact ⟨rfl, ((HB.out.setCell (p := ⟨gb, 0, none⟩) (Nat.le_of_eq HGB.out) _).setCell (p := ⟨gb, 1, none⟩) (Nat.le_of_eq HGB.out) _).setCell (p := ⟨gb, 2, none⟩) (Nat.le_of_eq HGB.out) _⟩
set_option maxHeartbeats 1000000 in
theorem less_calls (asc : Bool) (W : World) :
  Calls Try.prog 25 #[.bool asc] W fun e w' => e = .returned (.func (.func 39) #[] #[.pointer (some ⟨W.heap.size, 0, none⟩)]) ∧ w' = W.alloc (.cells #[.bool asc] 4) := by
 go_enter Try.func25, Try.ntmps25
 go_wp2
 go_ret
 exact ⟨rfl, rfl⟩
/-! ### a list that is read: its entries' heads -/
theorem heads {W : World} {ok : Nat → Prop} {A : Option Addr} {l : List S26} (h : Kd.F k26 W ok A l.length l) : ∃ xs : List F26, xs.map F26.e = l ∧ Kd.C kF26 W A xs.length xs ∧ ∀ x ∈ xs, x.h.n = x.h.l.length ∧ x.h.n ≤ x.h.c ∧ Kd.F k103 W ok x.h.A x.h.l.length x.h.l := by
 have hx : ∀ i : Nat, ∃ q : Option Addr × Nat, i < l.length → (∃ ad, A = some ad ∧ W.cell? (ad.add (i * 3)) = some (.int .i64 (l.getD i z26).f0) ∧ W.cell? (ad.add (i * 3 + 1)) = some (.slice q.1 (l.getD i z26).f1.length q.2) ∧ W.cell? (ad.add (i * 3 + 2)) = some (.string (l.getD i z26).f2)) ∧ (l.getD i z26).f1.length ≤ q.2 ∧ Kd.F k103 W ok q.1 (l.getD i z26).f1.length (l.getD i z26).f1 := by
  intro i
  by_cases hi : i < l.length
  ·obtain ⟨ad, c, rfl, hcl, hK, hcc, _⟩ := Kd.F_get h z26 (i : Int) (by omega) (by omega)
   rw [Int.toNat_natCast] at hK hcc
   obtain ⟨A1, c1, rfl, h1, h2⟩ := k26_openF hK
   exact ⟨(A1, c1), fun _ => ⟨⟨ad, rfl, hcc 0 _ rfl, hcc 1 _ rfl, hcc 2 _ rfl⟩, h1, h2⟩⟩
  ·exact ⟨(none, 0), fun h => absurd h hi⟩
 obtain ⟨f, hf⟩ := Classical.axiomOfChoice hx
 let xs : List F26 := (List.range l.length).map fun i => ⟨(l.getD i z26).f0, ⟨(f i).1, (l.getD i z26).f1.length, (f i).2, (l.getD i z26).f1⟩, (l.getD i z26).f2⟩
 have hlen : xs.length = l.length := by simp [xs]
 refine ⟨xs, ?_, ?_, fun x hx => ?_⟩
 ·refine List.ext_getElem (by simp [xs]) fun i h1 h2 => ?_
  simp [xs, F26.e, List.getD_eq_getElem?_getD, List.getElem?_eq_getElem h2]
 ·have hm := (Kd.F_now h).2.1
  refine ⟨rfl, by rw [hlen]; exact hm, fun hn => ?_⟩
  rw [hlen] at hn
  obtain ⟨ad, hA, _⟩ := (hf 0 hn).1
  refine ⟨ad, hA, fun j p hj => ?_⟩
  have hjl : j < l.length := by have := (List.getElem?_eq_some_iff.1 hj).1; omega
  obtain ⟨ad2, hA2, c0, c1, c2⟩ := (hf j hjl).1
  rw [hA] at hA2
  injection hA2 with hA2
  subst hA2
  have hp : p = ⟨(l.getD j z26).f0, ⟨(f j).1, (l.getD j z26).f1.length, (f j).2, (l.getD j z26).f1⟩, (l.getD j z26).f2⟩ := by
   have := (List.getElem?_eq_some_iff.1 hj).2
   rw [← this]
   simp [xs]
  subst hp
  refine ⟨_, ?_, kF26_mk W _, fun i u hu => ?_⟩
  ·rfl
  rcases i with _ | _ | _ | i
  ·simp at hu; subst hu; exact c0
  ·simp at hu; subst hu; exact c1
  ·simp at hu; subst hu; exact c2
  ·simp at hu
 ·obtain ⟨i, hi, rfl⟩ := List.mem_map.1 hx
  have hil : i < l.length := List.mem_range.1 hi
  exact ⟨rfl, (hf i hil).2.1, (hf i hil).2.2⟩
end Go.Proofs.Ytaehlbbjbeibfaa.X
end

section
set_option linter.unusedVariables false
set_option linter.unusedSectionVars false
set_option linter.unusedSimpArgs false
namespace Go.Proofs.Ytaehlbbjbeibfaa
section
variable {α : Type}
/-- who is ahead, of any two that are not the same -/
structure Tot (ah : α → α → Bool) : Prop where
 asym : ∀ a b, ah a b = true → ah b a = false
 neg : ∀ a b c, ah a b = false → ah b c = false → ah a c = false
 eq : ∀ a b, ah a b = false → ah b a = false → a = b
variable {ah : α → α → Bool}
theorem Tot.irr (O : Tot ah) (a : α) : ah a a = false := by
 cases h : ah a a with
 | false => rfl
 | true => exact absurd (O.asym a a h) (by rw [h]; simp)
theorem Tot.tr (O : Tot ah) {a b c : α} (h1 : ah a b = true) (h2 : ah b c = true) : ah a c = true := by
 cases h : ah a c with
 | true => rfl
 | false =>
  have := O.neg _ _ _ h (O.asym _ _ h2)
  rw [h1] at this
  cases this
theorem Tot.le (O : Tot ah) {a b c : α} (h1 : ah b a = false) (h2 : ah b c = true) : ah a c = true := by
 cases h : ah a c with
 | true => rfl
 | false =>
  have := O.neg _ _ _ h1 h
  rw [h2] at this
  cases this
variable (ah)
/-- each once, in order -/
def Up (l : List α) : Prop := l.Pairwise fun a b => ah a b = true
/-- in order: none ahead of the one ahead of it -/
def SrtB (l : List α) : Prop := l.Pairwise fun a b => ah b a = false
variable {ah}
theorem Up.unique (O : Tot ah) : ∀ {l m : List α}, Up ah l → Up ah m → (∀ x, x ∈ l ↔ x ∈ m) → l = m
 | [], [], _, _, _ => rfl
 | [], b :: u, _, _, h => absurd ((h b).2 List.mem_cons_self) (by simp)
 | a :: t, [], _, _, h => absurd ((h a).1 List.mem_cons_self) (by simp)
 | a :: t, b :: u, hl, hm, h => by
  obtain ⟨hl1, hl2⟩ := List.pairwise_cons.1 hl
  obtain ⟨hm1, hm2⟩ := List.pairwise_cons.1 hm
  have e : a = b := by
   rcases List.mem_cons.1 ((h a).1 List.mem_cons_self) with e | e
   ·exact e
   ·rcases List.mem_cons.1 ((h b).2 List.mem_cons_self) with e2 | e2
    ·exact e2.symm
    ·have h1 := hm1 a e
     have h2 := hl1 b e2
     rw [O.asym _ _ h1] at h2
     cases h2
  subst e
  have : t = u := Up.unique O hl2 hm2 (fun x => ⟨fun hx => by
   rcases List.mem_cons.1 ((h x).1 (List.mem_cons_of_mem _ hx)) with e | e
   ·subst e
    have := hl1 x hx
    rw [O.irr x] at this
    cases this
   ·exact e, fun hx => by
   rcases List.mem_cons.1 ((h x).2 (List.mem_cons_of_mem _ hx)) with e | e
   ·subst e
    have := hm1 x hx
    rw [O.irr x] at this
    cases this
   ·exact e⟩)
  rw [this]
variable (ah)
def insU (x : α) : List α → List α
 | [] => [x]
 | y :: t => if ah x y = true then x :: y :: t else if ah y x = true then y :: insU x t else y :: t
/-- what is in a list, each once, in order -/
def canon (l : List α) : List α := l.foldr (insU ah) []
variable {ah}
theorem insU_mem (O : Tot ah) (x : α) : ∀ (l : List α) (z : α), z ∈ insU ah x l ↔ z = x ∨ z ∈ l
 | [], z => by simp [insU]
 | y :: t, z => by
  unfold insU
  split
  ·simp
  ·split
   ·rw [List.mem_cons, insU_mem O x t z, List.mem_cons]
    constructor
    ·rintro (h | h | h)
     ·exact .inr (.inl h)
     ·exact .inl h
     ·exact .inr (.inr h)
    ·rintro (h | h | h)
     ·exact .inr (.inl h)
     ·exact .inl h
     ·exact .inr (.inr h)
   ·rename_i h1 h2
    have e : x = y := O.eq _ _ (by simpa using h1) (by simpa using h2)
    subst e
    simp
theorem insU_up (O : Tot ah) (x : α) : ∀ (l : List α), Up ah l → Up ah (insU ah x l)
 | [], _ => List.pairwise_singleton _ _
 | y :: t, h => by
  obtain ⟨h1, h2⟩ := List.pairwise_cons.1 h
  unfold insU
  split
  ·rename_i h3
   refine List.pairwise_cons.2 ⟨fun z hz => ?_, h⟩
   rcases List.mem_cons.1 hz with e | e
   ·rw [e]; exact h3
   ·exact O.tr h3 (h1 z e)
  ·split
   ·rename_i h4
    refine List.pairwise_cons.2 ⟨fun z hz => ?_, insU_up O x t h2⟩
    rcases (insU_mem O x t z).1 hz with e | e
    ·rw [e]; exact h4
    ·exact h1 z e
   ·exact h
theorem canon_mem (O : Tot ah) : ∀ (l : List α) (z : α), z ∈ canon ah l ↔ z ∈ l
 | [], z => by simp [canon]
 | x :: t, z => by
  show z ∈ insU ah x (canon ah t) ↔ _
  rw [insU_mem O, canon_mem O t z, List.mem_cons]
theorem canon_up (O : Tot ah) : ∀ (l : List α), Up ah (canon ah l)
 | [] => List.Pairwise.nil
 | x :: t => insU_up O x _ (canon_up O t)
theorem canon_of (O : Tot ah) {l m : List α} (h : Up ah m) (hm : ∀ z, z ∈ m ↔ z ∈ l) : canon ah l = m :=
 Up.unique O (canon_up O l) h (fun z => (canon_mem O l z).trans (hm z).symm)
theorem insU_len (x : α) : ∀ l : List α, (insU ah x l).length ≤ l.length + 1
 | [] => by simp [insU]
 | y :: t => by
  unfold insU
  split
  ·simp
  ·split
   ·have := insU_len x t
    simp only [List.length_cons]
    omega
   ·simp only [List.length_cons]; omega
theorem canon_len : ∀ l : List α, (canon ah l).length ≤ l.length
 | [] => Nat.le_refl _
 | x :: t => by
  have h1 := insU_len (ah := ah) x (canon ah t)
  have h2 := canon_len t
  show (insU ah x (canon ah t)).length ≤ t.length + 1
  omega
/-- what is out already, where none of the rest is ahead of any of it: so many of the whole -/
theorem out_take (O : Tot ah) {all out R : List α} (h : Up ah out) (hR : ∀ y ∈ R, ∀ o ∈ out, ah y o = false) (hm : ∀ z, z ∈ all ↔ z ∈ out ∨ z ∈ R) : (canon ah all).take out.length = out := by
 have e : canon ah all = out ++ canon ah (R.filter fun y => out.all fun o => ah o y) := by
  refine canon_of O (List.pairwise_append.2 ⟨h, canon_up O _, fun o ho y hy => ?_⟩) (fun z => ?_)
  ·rw [canon_mem O, List.mem_filter, List.all_eq_true] at hy
   exact hy.2 o ho
  ·rw [List.mem_append, canon_mem O, List.mem_filter, hm z]
   constructor
   ·rintro (h1 | h1)
    ·exact .inl h1
    ·exact .inr h1.1
   ·rintro (h1 | h1)
    ·exact .inl h1
    ·by_cases ha : (out.all fun o => ah o z) = true
     ·exact .inr ⟨h1, ha⟩
     ·left
      have : ∃ o ∈ out, ¬ ah o z = true := by
       refine Classical.byContradiction fun hn => ha ?_
       rw [List.all_eq_true]
       exact fun o ho => Classical.byContradiction fun h2 => hn ⟨o, ho, h2⟩
      obtain ⟨o, ho, h2⟩ := this
      rw [← O.eq _ _ (by simpa using h2) (hR z h1 o ho)]
      exact ho
 rw [e, List.take_left' rfl]
theorem out_all (O : Tot ah) {all out : List α} (h : Up ah out) (hm : ∀ z, z ∈ all ↔ z ∈ out) : canon ah all = out := canon_of O h (fun z => (hm z).symm)
variable (ah)
/-- where a merge stands: what is out, the lists that are left (the first one's first entry next) -/
structure MInv (all out : List α) (rem : List (List α)) : Prop where
 up : Up ah out
 srt : ∀ l ∈ rem, SrtB ah l
 ne : ∀ l ∈ rem, l ≠ []
 left : ∀ l ∈ rem, ∀ y ∈ l, ∀ o ∈ out, ah y o = false
 mem : ∀ z, z ∈ all ↔ z ∈ out ∨ ∃ l ∈ rem, z ∈ l
variable {ah}
theorem MInv.perm {all out : List α} {rem rem2 : List (List α)} (h : MInv ah all out rem) (hp : rem.Perm rem2) : MInv ah all out rem2 :=
 ⟨h.up, fun l hl => h.srt l (hp.mem_iff.2 hl), fun l hl => h.ne l (hp.mem_iff.2 hl), fun l hl => h.left l (hp.mem_iff.2 hl), fun z => (h.mem z).trans ⟨fun hz => hz.imp id (fun ⟨l, hl, h1⟩ => ⟨l, hp.mem_iff.1 hl, h1⟩), fun hz => hz.imp id (fun ⟨l, hl, h1⟩ => ⟨l, hp.mem_iff.2 hl, h1⟩)⟩⟩
/-- the next one goes out, or is there already -/
theorem MInv.step (O : Tot ah) {all out : List α} {e : α} {t : List α} {rem : List (List α)} (h : MInv ah all out ((e :: t) :: rem)) (hl : ∀ l ∈ rem, ∀ y ∈ l, ah y e = false) (out2 : List α)
  (ho : (out2 = out ++ [e] ∧ (∀ o, out.getLast? = some o → o ≠ e)) ∨ (out2 = out ∧ out.getLast? = some e)) : MInv ah all out2 (if t = [] then rem else t :: rem) := by
 obtain ⟨h1, h2, h3, h4, h5⟩ := h
 have hs := List.pairwise_cons.1 (h2 (e :: t) List.mem_cons_self)
 have sub : ∀ l, l ∈ (if t = [] then rem else t :: rem) ↔ (l = t ∧ t ≠ []) ∨ l ∈ rem := by
  intro l
  split
  ·rename_i ht
   simp [ht]
  ·rename_i ht
   rw [List.mem_cons]
   simp [ht]
 have hal : ∀ l, l ∈ (if t = [] then rem else t :: rem) → ∀ y ∈ l, ah y e = false := fun l hm y hy => by
  rcases (sub l).1 hm with ⟨rfl, _⟩ | hm
  ·exact hs.1 y hy
  ·exact hl l hm y hy
 have hlo : ∀ l, l ∈ (if t = [] then rem else t :: rem) → ∀ y ∈ l, ∀ o ∈ out, ah y o = false := fun l hm y hy o hoo => by
  rcases (sub l).1 hm with ⟨rfl, _⟩ | hm
  ·exact h4 (e :: l) List.mem_cons_self y (List.mem_cons_of_mem _ hy) o hoo
  ·exact h4 l (List.mem_cons_of_mem _ hm) y hy o hoo
 have hmem : ∀ z, (z ∈ out ∨ ∃ l ∈ (e :: t) :: rem, z ∈ l) ↔ (z ∈ out ∨ z = e) ∨ ∃ l ∈ (if t = [] then rem else t :: rem), z ∈ l := fun z => by
  constructor
  ·rintro (h | ⟨l, hm, hz⟩)
   ·exact .inl (.inl h)
   ·rcases List.mem_cons.1 hm with rfl | hm
    ·rcases List.mem_cons.1 hz with e1 | hz
     ·exact .inl (.inr e1)
     ·exact .inr ⟨t, (sub t).2 (.inl ⟨rfl, fun h => by rw [h] at hz; simp at hz⟩), hz⟩
    ·exact .inr ⟨l, (sub l).2 (.inr hm), hz⟩
  ·rintro ((h | h) | ⟨l, hm, hz⟩)
   ·exact .inl h
   ·exact .inr ⟨e :: t, List.mem_cons_self, by rw [h]; exact List.mem_cons_self⟩
   ·rcases (sub l).1 hm with ⟨rfl, _⟩ | hm
    ·exact .inr ⟨e :: l, List.mem_cons_self, List.mem_cons_of_mem _ hz⟩
    ·exact .inr ⟨l, List.mem_cons_of_mem _ hm, hz⟩
 have hsr : ∀ l, l ∈ (if t = [] then rem else t :: rem) → SrtB ah l := fun l hm => by
  rcases (sub l).1 hm with ⟨rfl, _⟩ | hm
  ·exact hs.2
  ·exact h2 l (List.mem_cons_of_mem _ hm)
 have hne : ∀ l, l ∈ (if t = [] then rem else t :: rem) → l ≠ [] := fun l hm => by
  rcases (sub l).1 hm with ⟨rfl, h⟩ | hm
  ·exact h
  ·exact h3 l (List.mem_cons_of_mem _ hm)
 rcases ho with ⟨rfl, hne2⟩ | ⟨rfl, hlast⟩
 ·refine ⟨?_, hsr, hne, fun l hm y hy o hoo => ?_, fun z => ?_⟩
  ·refine List.pairwise_append.2 ⟨h1, List.pairwise_singleton _ _, fun o hoo y hy => ?_⟩
   rw [List.mem_singleton] at hy
   subst hy
   rcases List.eq_nil_or_concat out with rfl | ⟨u, b, hub⟩
   ·simp at hoo
   ·rw [List.concat_eq_append] at hub
    subst hub
    have hb : ah b y = true := by
     cases hby : ah b y with
     | true => rfl
     | false => exact absurd (O.eq _ _ hby (h4 _ List.mem_cons_self y List.mem_cons_self b (by simp))) (hne2 b (by simp))
    rcases List.mem_append.1 hoo with hoo | hoo
    ·exact O.tr ((List.pairwise_append.1 h1).2.2 o hoo b (by simp)) hb
    ·rw [List.mem_singleton] at hoo
     rw [hoo]
     exact hb
  ·rcases List.mem_append.1 hoo with hoo | hoo
   ·exact hlo l hm y hy o hoo
   ·rw [List.mem_singleton] at hoo
    rw [hoo]
    exact hal l hm y hy
  ·rw [h5 z, hmem z, List.mem_append, List.mem_singleton]
 ·refine ⟨h1, hsr, hne, hlo, fun z => ?_⟩
  have hin : e ∈ out2 := List.mem_of_getLast? hlast
  rw [h5 z, hmem z]
  constructor
  ·rintro ((h | h) | h)
   ·exact .inl h
   ·exact .inl (by rw [h]; exact hin)
   ·exact .inr h
  ·rintro (h | h)
   ·exact .inl (.inl h)
   ·exact .inr h
theorem MInv.start (lists : List (List α)) (rem : List (List α)) (hs : ∀ l ∈ lists, SrtB ah l) (hr : ∀ l, l ∈ rem ↔ l ∈ lists ∧ l ≠ []) : MInv ah lists.flatten [] rem :=
 ⟨List.Pairwise.nil, fun l hl => hs l ((hr l).1 hl).1, fun l hl => ((hr l).1 hl).2, fun _ _ _ _ o ho => by simp at ho, fun z => by
  rw [List.mem_flatten]
  constructor
  ·rintro ⟨l, hl, hz⟩
   exact .inr ⟨l, (hr l).2 ⟨hl, fun e => by rw [e] at hz; simp at hz⟩, hz⟩
  ·rintro (h | ⟨l, hl, hz⟩)
   ·simp at h
   ·exact ⟨l, ((hr l).1 hl).1, hz⟩⟩
theorem MInv.done (O : Tot ah) {all out : List α} (h : MInv ah all out []) : canon ah all = out := out_all O h.up (fun z => by rw [h.mem z]; simp)
theorem MInv.cut (O : Tot ah) {all out : List α} {rem : List (List α)} (h : MInv ah all out rem) : (canon ah all).take out.length = out :=
 out_take O (R := rem.flatten) h.up (fun y hy o ho => by
  obtain ⟨l, hl, hy⟩ := List.mem_flatten.1 hy
  exact h.left l hl y hy o ho) (fun z => by rw [h.mem z, List.mem_flatten])
end
end Go.Proofs.Ytaehlbbjbeibfaa
end

section
namespace Go.Proofs.Ytaehlbbjbeibfaa.X
open Go.RowKit Go.Proofs.YtaehlbbjbeibfaaW.PrintWords Go.Proofs.YtaehlbbjbeibfaaW.PrintLast Go.Proofs.YtaehlbbjbeibfaaW.PrintMore
attribute [local go_sem] max2_int min2_int max_two min_two max_three min_three max_four min_four
set_option linter.unusedVariables false
set_option linter.unusedSimpArgs false

open Go.Proofs.Ytaehlbbjbeibfaa Go.Proofs.Ytaehlbbjbeibfaa.B
theorem ahE_eq (asc : Bool) (x y : Ent) (h1 : ahE asc x y = false) (h2 : ahE asc y x = false) : x = y := by
 unfold ahE at h1 h2
 refine (ordE_stands.eq x y).1 ?_
 have := ordE_stands.flip x y
 cases asc <;> simp only [Bool.false_eq_true, if_false, if_true, decide_eq_false_iff_not] at h1 h2 <;> omega
theorem totE (asc : Bool) : Tot (ahE asc) := ⟨ahE_asym asc, ahE_neg asc, ahE_eq asc⟩
/-- the first one of some -/
def firstE (asc : Bool) : List Ent → Ent
 | [] => z26
 | x :: t => t.foldl (fun b y => if ahE asc y b = true then y else b) x
theorem firstE_fold (asc : Bool) : ∀ (t : List Ent) (x : Ent), (t.foldl (fun b y => if ahE asc y b = true then y else b) x = x ∨ t.foldl (fun b y => if ahE asc y b = true then y else b) x ∈ t) ∧ (∀ y, (y = x ∨ y ∈ t) → ahE asc y (t.foldl (fun b y => if ahE asc y b = true then y else b) x) = false)
 | [], x => ⟨.inl rfl, fun y hy => by
  rcases hy with rfl | hy
  ·exact (totE asc).irr y
  ·simp at hy⟩
 | z :: t, x => by
  rw [List.foldl_cons]
  obtain ⟨h1, h2⟩ := firstE_fold asc t (if ahE asc z x = true then z else x)
  refine ⟨?_, fun y hy => ?_⟩
  ·rcases h1 with h1 | h1
   ·rw [h1]
    split
    ·exact .inr List.mem_cons_self
    ·exact .inl rfl
   ·exact .inr (List.mem_cons_of_mem _ h1)
  ·have h3 := h2 _ (.inl rfl)
   have hx : ahE asc x (if ahE asc z x = true then z else x) = false := by
    split
    ·rename_i h
     exact ahE_asym asc _ _ h
    ·exact (totE asc).irr x
   have hz : ahE asc z (if ahE asc z x = true then z else x) = false := by
    split
    ·exact (totE asc).irr z
    ·rename_i h
     simpa using h
   rcases hy with rfl | hy
   ·exact ahE_neg asc _ _ _ hx h3
   ·rcases List.mem_cons.1 hy with rfl | hy
    ·exact ahE_neg asc _ _ _ hz h3
    ·exact h2 y (.inr hy)
theorem firstE_spec (asc : Bool) (l : List Ent) (h : l ≠ []) : firstE asc l ∈ l ∧ ∀ y ∈ l, ahE asc y (firstE asc l) = false := by
 cases l with
 | nil => exact absurd rfl h
 | cons x t =>
  have := firstE_fold asc t x
  refine ⟨?_, fun y hy => this.2 y (List.mem_cons.1 hy)⟩
  rcases this.1 with h | h
  ·have e : firstE asc (x :: t) = x := h
   rw [e]
   exact List.mem_cons_self
  ·exact List.mem_cons_of_mem _ h
theorem firstE_unique (asc : Bool) (l : List Ent) (x : Ent) (hx : x ∈ l) (h : ∀ y ∈ l, ahE asc y x = false) : firstE asc l = x := by
 have hs := firstE_spec asc l (fun e => by rw [e] at hx; simp at hx)
 exact ahE_eq asc _ _ (h _ hs.1) (hs.2 x hx)
/-- what merge.First and merge.All are asked for here: no list too long -/
def fitE (l : List Ent) : Prop := l.length < 1000000 ∧ ∀ e ∈ l, e.f1.length ≤ 4398046511104
instance (l : List Ent) : Decidable (fitE l) := by unfold fitE; infer_instance
theorem heap_first (asc : Bool) (xs : List F26) (h : 0 < xs.length) : 0 < (pushL (ahG101 asc) mk101 [] 0 xs).length ∧ (hgt (pushL (ahG101 asc) mk101 [] 0 xs) 0).f0 ∈ xs ∧ (hgt (pushL (ahG101 asc) mk101 [] 0 xs) 0).f0.e = firstE asc (xs.map F26.e) := by
 have O := hordG101 asc
 obtain ⟨hp, hP⟩ := pushL_spec (mk := mk101) O xs [] [] 0 Hp.nil (List.Perm.refl _)
 rw [List.nil_append] at hP
 have hl : (pushL (ahG101 asc) mk101 [] 0 xs).length = xs.length := by rw [hP.length_eq, stamp_len]
 have hm : ∀ y, y ∈ stamp mk101 0 xs → y.f0 ∈ xs := fun y hy => by
  obtain ⟨i, hi, rfl⟩ := List.getElem_of_mem hy
  rw [stamp_len] at hi
  rw [stamp_get mk101 xs 0 i hi]
  exact List.getElem_mem hi
 have h1 : (hgt (pushL (ahG101 asc) mk101 [] 0 xs) 0).f0 ∈ xs := hm _ (hP.mem_iff.1 (hgt_mem _ 0 (by omega)))
 refine ⟨by omega, h1, (firstE_unique asc _ _ (List.mem_map.2 ⟨_, h1, rfl⟩) (fun y hy => ?_)).symm⟩
 obtain ⟨x, hx, rfl⟩ := List.mem_map.1 hy
 obtain ⟨i, hi, rfl⟩ := List.getElem_of_mem hx
 have hin : mk101 xs[i] (0 + i) ∈ pushL (ahG101 asc) mk101 [] 0 xs := hP.mem_iff.2 (by
  rw [← stamp_get mk101 xs 0 i hi]
  exact List.getElem_mem _)
 have h2 := hp.least O _ hin
 unfold ahG101 at h2
 rw [Bool.or_eq_false_iff] at h2
 exact h2.1
/-- a list in order, as it is told: no neighbour ahead -/
theorem srtB_of (asc : Bool) (l : List Ent) (h : ∀ (j : Nat) (hj : j + 1 < l.length), ahE asc l[j + 1] l[j] = false) : SrtB (ahE asc) l := by
 refine List.pairwise_iff_getElem.2 fun i j hi hj hij => ?_
 obtain ⟨d, rfl⟩ : ∃ d, j = i + 1 + d := ⟨j - i - 1, by omega⟩
 clear hij
 induction d with
 | zero => exact h i hj
 | succ d ih => exact ahE_neg asc _ _ _ (h (i + 1 + d) hj) (ih (by omega))
theorem srtB_at (asc : Bool) (l : List Ent) (h : SrtB (ahE asc) l) : ∀ (j : Nat) (hj : j + 1 < l.length), ahE asc l[j + 1] l[j] = false := fun j hj => List.pairwise_iff_getElem.1 h j (j + 1) (by omega) hj (by omega)
def sortedB (asc : Bool) : List Ent → Bool
 | [] => true
 | [_] => true
 | x :: y :: t => !ahE asc y x && sortedB asc (y :: t)
theorem sortedB_iff (asc : Bool) : ∀ l : List Ent, sortedB asc l = true ↔ ∀ (j : Nat) (hj : j + 1 < l.length), ahE asc l[j + 1] l[j] = false
 | [] => ⟨fun _ j hj => absurd hj (by simp), fun _ => rfl⟩
 | [_] => ⟨fun _ j hj => absurd hj (by simp), fun _ => rfl⟩
 | x :: y :: t => by
  unfold sortedB
  rw [Bool.and_eq_true, sortedB_iff asc (y :: t), Bool.not_eq_true']
  constructor
  ·rintro ⟨h1, h2⟩ j hj
   cases j with
   | zero => exact h1
   | succ j => exact h2 j (by simpa using hj)
  ·intro h
   exact ⟨h 0 (by simp), fun j hj => h (j + 1) (by simpa using hj)⟩
theorem sortedB_srt (asc : Bool) (l : List Ent) : sortedB asc l = true ↔ SrtB (ahE asc) l := (sortedB_iff asc l).trans ⟨srtB_of asc l, srtB_at asc l⟩
theorem sortedF_ev (asc : Bool) (l : List Ent) (hl : ∀ x ∈ l, okE x) : Ev (fun k => entry_Sorted.f k asc l) (sortedB asc l) := by
 obtain ⟨b, h1, h2⟩ := sortedE_ev asc l hl
 have : b = sortedB asc l := by
  cases hb : b with
  | true => exact ((sortedB_iff asc l).2 (h2.1 hb)).symm
  | false =>
   cases hs : sortedB asc l with
   | false => rfl
   | true =>
    rw [h2.2 ((sortedB_iff asc l).1 hs)] at hb
    cases hb
 rwa [this] at h1
def fitL (ls : List (List Ent)) : Prop := ls.length < 1000000 ∧ ls.flatten.length < 1000000 ∧ ∀ l ∈ ls, ∀ e ∈ l, e.f1.length ≤ 4398046511104
instance (l : List (List Ent)) : Decidable (fitL l) := by unfold fitL; infer_instance
/-- what merge.All tells -/
def allE (asc : Bool) (most : Int) (ls : List (List Ent)) : List Ent × Bool := if ls.all (sortedB asc) = true then ((canon (ahE asc) ls.flatten).take most.toNat, true) else ([], false)
end Go.Proofs.Ytaehlbbjbeibfaa.X
end

section
namespace Go.Proofs.Ytaehlbbjbeibfaa.X
open Go.RowKit Go.Proofs.YtaehlbbjbeibfaaW.PrintWords Go.Proofs.YtaehlbbjbeibfaaW.PrintLast Go.Proofs.YtaehlbbjbeibfaaW.PrintMore
attribute [local go_sem] max2_int min2_int max_two min_two max_three min_three max_four min_four
set_option linter.unusedVariables false
set_option linter.unusedSimpArgs false

open Go.Proofs.Ytaehlbbjbeibfaa Go.Proofs.Ytaehlbbjbeibfaa.B
/-- the heap of lists: what each list reads, and where -/
structure AInv (asc : Bool) (P : Nat → Prop) (w W : World) (g gc : Nat) (row : Option Nat) (M : List S91) (came : Int) : Prop where
 hs : HSG91 gc W g g row M came
 env : EnvL asc w W g gc
 ar : AllRd91 w M
 fd : ∀ y ∈ M, Kd.F k26 w P y.f0.A y.f0.l.length y.f0.l
 hp : Hp (ahG91 asc) M
/-- what is out: of the heap's blocks it has none -/
def OkM (P : Nat → Prop) (n0 g : Nat) (row : Option Nat) (k : Nat) : Prop := (P k ∧ k < n0) ∨ (n0 ≤ k ∧ k ≠ g ∧ some k ≠ row)
def Out (P : Nat → Prop) (n0 : Nat) (W : World) (g : Nat) (row : Option Nat) (v : Value) (out : List S26) : Prop := Kd.N k26 26 W g (OkM P n0 g row) v out
section
variable {asc : Bool} {P : Nat → Prop} {w W W1 : World} {g gc : Nat} {row row1 : Option Nat} {M : List S91} {came : Int} {v : Value} {out : List S26}
theorem AInv.le (h : AInv asc P w W g gc row M came) : w.heap.size ≤ g ∧ g < W.heap.size := ⟨h.env.le, h.hs.lt.1⟩
theorem AInv.below (h : AInv asc P w W g gc row M came) (hb : Below W.heap.size W W1) : AInv asc P w W1 g gc row M came :=
 ⟨h.hs.below hb, h.env.step (hb.mono (Nat.le_of_lt h.hs.lt.1)), h.ar, h.fd, h.hp⟩
theorem AInv.grown (h : AInv asc P w W g gc row M came) {r : Option Nat} (hg : W.grownBy W1 r) (hr : ∀ k, r = some k → w.heap.size ≤ k ∧ k ≠ g ∧ some k ≠ row ∧ g ≤ k) : AInv asc P w W1 g gc row M came := by
 refine ⟨h.hs.grown (kd := k91) rfl hg (fun e => (hr g e.symm).2.1 rfl) (fun b hb e => (hr b e.symm).2.2.1 (by rw [hb])), h.env.step ((Below.refl g W).grown hg (Nat.le_of_lt h.hs.lt.1) (fun k hk => (hr k hk).2.2.2)), h.ar, h.fd, h.hp⟩
theorem AInv.heap {M1 : List S91} {c1 : Int} (h : AInv asc P w W g gc row M came) (hs : HSG91 gc W1 g g row1 M1 c1) (ht : HpTo W W1 g g row row1) (har : AllRd91 w M1) (hfd : ∀ y ∈ M1, Kd.F k26 w P y.f0.A y.f0.l.length y.f0.l) (hp : Hp (ahG91 asc) M1) : AInv asc P w W1 g gc row1 M1 c1 :=
 ⟨hs, h.env.step ht.below, har, hfd, hp⟩
theorem Out.below (h : Out P w.heap.size W g row v out) (hb : Below W.heap.size W W1) : Out P w.heap.size W1 g row v out := Kd.N_below h hb
/-- a call on the heap leaves what is out as it was -/
theorem Out.heap {n0 : Nat} (h : Out P n0 W g row v out) (hn : n0 ≤ g) (hrow : ∀ k, row = some k → n0 ≤ k) (ht : HpTo W W1 g g row row1) : Out P n0 W1 g row1 v out := by
 have hb := Kd.N_bound h
 refine Kd.N_mono (Kd.N_step hb (fun k hk hlt => ?_)) (fun k hk => ?_)
 ·refine ht.keep.2 k hlt ?_ ?_
  ·rcases hk.1 with h1 | h1
   ·omega
   ·exact h1.2.1
  ·rcases hk.1 with h1 | h1
   ·intro e
    have := hrow k e.symm
    omega
   ·exact h1.2.2
 ·rcases hk.1 with h1 | h1
  ·exact .inl h1
  ·refine .inr ⟨h1.1, h1.2.1, ?_⟩
   rcases ht.grow with e | ⟨b, e, hle⟩
   ·rw [e]; exact h1.2.2
   ·rw [e]
    intro e2
    injection e2 with e2
    have := hk.2
    omega
theorem OkM.fresh {n0 : Nat} (hg : g < W.heap.size) (hrow : ∀ k, row = some k → k < W.heap.size) (hn : n0 ≤ W.heap.size) : ∀ k, W.heap.size ≤ k → OkM P n0 g row k := fun k hk => .inr ⟨by omega, by omega, fun e => by have := hrow k e.symm; omega⟩
theorem mk91_all {x : Hdr S26} (har : AllRd91 w M) (hx : RdL w x) {c : Int} : AllRd91 w (M ++ [mk91 x c]) := har.snoc hx
/-- one list comes to the heap -/
theorem AInv.push (h : AInv asc P w W g gc row M came) (x : Hdr S26) (hx : RdL w x) (hf : Kd.F k26 w P x.A x.l.length x.l) (hc0 : 0 ≤ came) (hc1 : came + 1 < 1099511627776) (hl : M.length + 1 < 1099511627776) :
  Calls Try.prog 29 #[.pointer (some ⟨g, 0, none⟩), .slice (some ⟨W.heap.size, 0, none⟩) 1 1] (W.alloc (.cells #[.slice x.A x.n x.c] 34)) fun e w' => e = .returned (.tuple #[]) ∧ ∃ row', AInv asc P w w' g gc row' (pushF (ahG91 asc) M (mk91 x came)) (came + 1) ∧ HpTo (W.alloc (.cells #[.slice x.A x.n x.c] 34)) w' g g row row' := by
 have hb := below_alloc (Below.refl W.heap.size W) (.cells #[.slice x.A x.n x.c] 34)
 have h2 := h.below hb
 have hC : Kd.C kHdr (W.alloc (.cells #[.slice x.A x.n x.c] 34)) (some ⟨W.heap.size, 0, none⟩) [x].length [x] := by
  refine ⟨rfl, by simp, fun _ => ⟨_, rfl, fun j p hj => ?_⟩⟩
  have hj0 : j = 0 := by
   have := (List.getElem?_eq_some_iff.1 hj).1
   simpa using this
  subst hj0
  obtain rfl : x = p := by simpa using hj
  refine ⟨_, rfl, kHdr_mk _ x, fun i u hu => ?_⟩
  have hbk := blk_new W (.cells #[.slice x.A x.n x.c] 34)
  rw [add_plain, blk_cell hbk]
  rcases i with _ | i
  ·simpa using hu
  ·simp at hu
 have hrow := h.hs.row_
 have hp := push91_calls (asc := asc) (W0 := w) (gc := gc) _ g g row M came (some ⟨W.heap.size, 0, none⟩) 1 [x] h2.hs h2.env h2.ar (fun y hy => by rw [List.mem_singleton] at hy; rw [hy]; exact hx) (C_keepB (fun h => h) hC (fun ad e _ => by
  cases e
  exact ⟨by have := h.le.2; show W.heap.size ≠ g; omega, fun e => by have := (hrow _ e.symm).2.1; simp at this⟩)) hc0 hc1 hl h.hp
 have e1 : pushL (ahG91 asc) mk91 M came [x] = pushF (ahG91 asc) M (mk91 x came) := rfl
 rw [e1] at hp
 have hsp := pushF_spec (hordG91 asc) M (mk91 x came) h.hp
 refine hp.mono fun e w' hh => ⟨hh.1, ?_⟩
 obtain ⟨_, row', h3, h4⟩ := hh
 refine ⟨row', h2.heap h3 h4 ((mk91_all h.ar hx).perm hsp.2) (fun y hy => ?_) hsp.1, h4⟩
 rcases List.mem_append.1 (hsp.2.mem_iff.1 hy) with h5 | h5
 ·exact h.fd y h5
 ·rw [List.mem_singleton] at h5
  rw [h5]
  exact hf
/-- the first list goes -/
theorem AInv.pop (h : AInv asc P w W g gc row M came) (hl : 0 < M.length) (hm : M.length < 1099511627776) :
  Calls Try.prog 30 #[.pointer (some ⟨g, 0, none⟩)] W fun e w' => e = .returned (.tuple #[.slice (hgt M 0).f0.A (hgt M 0).f0.n (hgt M 0).f0.c, .bool true]) ∧ AInv asc P w w' g gc row (popF (ahG91 asc) M) came ∧ HpTo W w' g g row row := by
 have hsp := popF_spec (hordG91 asc) M h.hp hl
 refine (pop91_some (asc := asc) (W0 := w) (gc := gc) W g g row M came h.hs h.env h.ar hl hm).mono fun e w' hh => ⟨hh.1, ?_, hh.2.2⟩
 exact h.heap hh.2.1 hh.2.2 (fun y hy => h.ar y (hsp.2.mem_iff.2 (List.mem_cons_of_mem _ hy))) (fun y hy => h.fd y (hsp.2.mem_iff.2 (List.mem_cons_of_mem _ hy))) hsp.1
theorem AInv.pop0 (h : AInv asc P w W g gc row M came) (hl : M.length = 0) :
  Calls Try.prog 30 #[.pointer (some ⟨g, 0, none⟩)] W fun e w' => e = .returned (.tuple #[.slice none 0 0, .bool false]) ∧ w' = W := pop91_none (gc := gc) W g g row M came h.hs hl
end
/-! ### the plain side of a round -/
/-- the lists that are in the heap -/
def lsOf (M : List S91) : List (List Ent) := M.map fun y => y.f0.l
theorem lsOf_push (asc : Bool) (M : List S91) (x : Hdr S26) (c : Int) (h : Hp (ahG91 asc) M) : (lsOf (pushF (ahG91 asc) M (mk91 x c))).Perm (x.l :: lsOf M) := by
 have := (pushF_spec (hordG91 asc) M (mk91 x c) h).2.map (fun y : S91 => y.f0.l)
 refine this.trans ?_
 rw [List.map_append]
 exact List.perm_append_comm
theorem lsOf_pop (asc : Bool) (M : List S91) (h : Hp (ahG91 asc) M) (h0 : 0 < M.length) : (lsOf M).Perm ((hgt M 0).f0.l :: lsOf (popF (ahG91 asc) M)) := (popF_spec (hordG91 asc) M h h0).2.map (fun y : S91 => y.f0.l)
/-- the first list's first entry: none of what is in the heap is ahead of it -/
theorem heap_head {asc : Bool} {w : World} {M : List S91} (hp : Hp (ahG91 asc) M) (har : AllRd91 w M) (hs : ∀ l ∈ lsOf M, SrtB (ahE asc) l) (h0 : 0 < M.length) : ∀ l ∈ lsOf M, ∀ y ∈ l, ahE asc y ((hgt M 0).f0.l.getD 0 z26) = false := by
 intro l hl y hy
 obtain ⟨z, hz, rfl⟩ := List.mem_map.1 hl
 have h1 := hp.least (hordG91 asc) z hz
 unfold ahG91 at h1
 rw [Bool.or_eq_false_iff] at h1
 have h2 : ahE asc (z.f0.l.getD 0 z26) ((hgt M 0).f0.l.getD 0 z26) = false := h1.1
 refine ahE_neg asc _ _ _ ?_ h2
 have hpos := (har z hz).2.2.2.1
 rw [List.getD_eq_getElem?_getD, List.getElem?_eq_getElem hpos]
 obtain ⟨i, hi, rfl⟩ := List.getElem_of_mem hy
 show ahE asc z.f0.l[i] z.f0.l[0] = false
 by_cases e : i = 0
 ·subst e
  exact (totE asc).irr _
 ·exact List.pairwise_iff_getElem.1 (hs _ hl) 0 i hpos hi (by omega)
end Go.Proofs.Ytaehlbbjbeibfaa.X
end

section
namespace Go.Proofs.Ytaehlbbjbeibfaa.X
open Go.RowKit Go.Proofs.YtaehlbbjbeibfaaW.PrintWords Go.Proofs.YtaehlbbjbeibfaaW.PrintLast Go.Proofs.YtaehlbbjbeibfaaW.PrintMore
attribute [local go_sem] max2_int min2_int max_two min_two max_three min_three max_four min_four
set_option linter.unusedVariables false
set_option linter.unusedSimpArgs false

open Go.Proofs.Ytaehlbbjbeibfaa Go.Proofs.Ytaehlbbjbeibfaa.B
/-- where a merge stands: its heap, what is out, what is left (rem) -/
structure St (asc : Bool) (P : Nat → Prop) (w W : World) (g gc : Nat) (ls : List (List Ent)) (most : Int) (row : Option Nat) (M : List S91) (came : Int) (v : Value) (out : List Ent) (rem : List (List Ent)) : Prop where
 inv : AInv asc P w W g gc row M came
 o : Out P w.heap.size W g row v out
 m : MInv (ahE asc) ls.flatten out rem
 len : out.length ≤ most.toNat
 c0 : 0 ≤ came
 cb : came + rem.flatten.length ≤ 2000000
def Head (asc : Bool) (P : Nat → Prop) (w : World) (g gc : Nat) (ls : List (List Ent)) (most : Int) (n : Nat) (W : World) (v12 v13 v14 : Value) : Prop :=
 ∃ row M came out rem, St asc P w W g gc ls most row M came v12 out rem ∧ rem.flatten.length ≤ n ∧
  ((v14 = .bool false ∧ v13 = .slice none 0 0 ∧ rem = []) ∨ ∃ (xA : Option Addr) (xn xc : Nat) (xl : List S26), v14 = .bool true ∧ v13 = .slice xA xn xc ∧ rem = xl :: lsOf M ∧ RdL w ⟨xA, xn, xc, xl⟩ ∧ Kd.F k26 w P xA xl.length xl ∧ ∀ l ∈ lsOf M, ∀ y ∈ l, ahE asc y (xl.getD 0 z26) = false)
theorem flat_len : ∀ (rem : List (List Ent)), (∀ l ∈ rem, l ≠ []) → rem.length ≤ rem.flatten.length
 | [], _ => Nat.le_refl _
 | l :: t, h => by
  have := flat_len t (fun x hx => h x (List.mem_cons_of_mem _ hx))
  have h2 : 0 < l.length := List.length_pos_iff.2 (h l List.mem_cons_self)
  rw [List.flatten_cons, List.length_append, List.length_cons]
  omega
theorem last_of {l : List Ent} {m q : Nat} (h : l.length = m) (hq : m = q + 1) : l.getLast? = some (rd_T26 l (q : Int)) ∧ rd_T26 l (q : Int) ∈ l := by
 have hl : q < l.length := by omega
 have e : rd_T26 l (q : Int) = l[q] := by
  show l.getD (q : Int).toNat z26 = _
  rw [Int.toNat_natCast, List.getD_eq_getElem?_getD, List.getElem?_eq_getElem hl]
  rfl
 rw [List.getLast?_eq_getElem?, e]
 exact ⟨by rw [show l.length - 1 = q by omega, List.getElem?_eq_getElem hl], List.getElem_mem hl⟩
theorem q_facts {m q : Nat} (hq : m = q + 1) (hm : m < 1000000) : IntKind.i64.wrap ((m : Int) - 1) = (q : Int) ∧ ((m : Int) == 0) = false ∧ (q : Int) < (m : Int) ∧ (0 : Int) ≤ (q : Int) ∧ q < m := by
 refine ⟨?_, ?_, by omega, by omega, by omega⟩
 ·rw [IntKind.wrap_i64]; omega
 ·rw [beq_eq_false_iff_ne]; omega
section
variable {asc : Bool} {P : Nat → Prop} {w W W1 W2 : World} {g gc : Nat} {ls : List (List Ent)} {most : Int} {row row1 : Option Nat} {M : List S91} {came : Int} {v v2 : Value} {out out2 : List Ent} {rem : List (List Ent)} {n : Nat}
theorem lsOf_len (M : List S91) : (lsOf M).length = M.length := by unfold lsOf; rw [List.length_map]
theorem St.mlen (h : St asc P w W g gc ls most row M came v out (lsOf M)) : M.length ≤ 2000000 := by
 have h1 := flat_len _ h.m.ne
 have h2 := h.cb
 have h3 := h.c0
 rw [lsOf_len] at h1
 omega
theorem St.pop1 (h : St asc P w W g gc ls most row M came v out (lsOf M)) (h0 : 0 < M.length) (hn : (lsOf M).flatten.length ≤ n) (h1 : AInv asc P w W1 g gc row (popF (ahG91 asc) M) came) (ht : HpTo W W1 g g row row) :
  Head asc P w g gc ls most n W1 v (.slice (hgt M 0).f0.A (hgt M 0).f0.n (hgt M 0).f0.c) (.bool true) := by
 have hp := lsOf_pop asc M h.inv.hp h0
 have hl := hp.flatten.length_eq
 refine ⟨row, popF (ahG91 asc) M, came, out, (hgt M 0).f0.l :: lsOf (popF (ahG91 asc) M), ⟨h1, h.o.heap h.inv.le.1 (fun k hk => Nat.le_trans h.inv.le.1 (h.inv.hs.row_ k hk).1) ht, h.m.perm hp, h.len, h.c0, by rw [← hl]; exact h.cb⟩, by rw [← hl]; exact hn, .inr ⟨(hgt M 0).f0.A, (hgt M 0).f0.n, (hgt M 0).f0.c, (hgt M 0).f0.l, rfl, rfl, rfl, h.inv.ar _ (hgt_mem M 0 h0), h.inv.fd _ (hgt_mem M 0 h0), fun l hl y hy => ?_⟩⟩
 exact heap_head h.inv.hp h.inv.ar h.m.srt h0 l (hp.mem_iff.2 (List.mem_cons_of_mem _ hl)) y hy
theorem St.pop0 (h : St asc P w W g gc ls most row M came v out (lsOf M)) (h0 : M.length = 0) (hn : (lsOf M).flatten.length ≤ n) : Head asc P w g gc ls most n W v (.slice none 0 0) (.bool false) := by
 obtain rfl := List.length_eq_zero_iff.1 h0
 exact ⟨row, [], came, out, [], h, hn, .inl ⟨rfl, rfl, rfl⟩⟩
/-- one entry is out, or was there already -/
theorem St.step {x : Hdr S26} {e : Ent} {t : List Ent} (h : St asc P w W g gc ls most row M came v out (x.l :: lsOf M)) (hx : x.l = e :: t) (hl : ∀ l ∈ lsOf M, ∀ y ∈ l, ahE asc y (x.l.getD 0 z26) = false)
  (ho : (out2 = out ++ [e] ∧ (∀ o, out.getLast? = some o → o ≠ e)) ∨ (out2 = out ∧ out.getLast? = some e)) (hlen : out2.length ≤ most.toNat) (hi : AInv asc P w W1 g gc row M came) (hO : Out P w.heap.size W1 g row v2 out2) :
  (if t = [] then lsOf M else t :: lsOf M).flatten.length + 1 = (x.l :: lsOf M).flatten.length ∧ St asc P w W1 g gc ls most row M came v2 out2 (if t = [] then lsOf M else t :: lsOf M) := by
 have hm := h.m
 have hcb := h.cb
 rw [hx] at hm hcb hl ⊢
 have hfl : (if t = [] then lsOf M else t :: lsOf M).flatten.length + 1 = ((e :: t) :: lsOf M).flatten.length := by
  split
  ·rename_i ht
   subst ht
   simp
  ·simp
 exact ⟨hfl, hi, hO, hm.step (totE asc) hl out2 ho, hlen, h.c0, by omega⟩
theorem St.c1 (h : St asc P w W g gc ls most row M came v out rem) : came + 1 < 1099511627776 := by
 have := h.cb
 omega
theorem St.m1 {l : List Ent} (h : St asc P w W g gc ls most row M came v out (l :: lsOf M)) : M.length + 1 < 1099511627776 := by
 have h1 := flat_len _ h.m.ne
 have h2 := h.cb
 have h3 := h.c0
 rw [List.length_cons, lsOf_len] at h1
 omega
theorem St.m2 (h : St asc P w W g gc ls most row M came v out (lsOf M)) : M.length < 1099511627776 := by
 have := h.mlen
 omega
theorem cb_of {a b : Nat} (h : a + 1 = b) (h2 : came + b ≤ 2000000) : came + 1 + (a : Int) ≤ 2000000 := by omega
theorem push_pos (asc : Bool) (M : List S91) (x : S91) (h : Hp (ahG91 asc) M) : 0 < (pushF (ahG91 asc) M x).length := by
 rw [(pushF_spec (hordG91 asc) M x h).2.length_eq]
 simp
/-- the rest of the list comes to the heap again -/
theorem St.push {x : Hdr S26} {o : Obj} (h : St asc P w W g gc ls most row M came v out (x.l :: lsOf M)) (hcb : came + 1 + ((x.l :: lsOf M).flatten.length : Int) ≤ 2000000) (h1 : AInv asc P w W2 g gc row1 (pushF (ahG91 asc) M (mk91 x came)) (came + 1)) (ht : HpTo (W.alloc o) W2 g g row row1) :
  (lsOf (pushF (ahG91 asc) M (mk91 x came))).flatten.length = (x.l :: lsOf M).flatten.length ∧ St asc P w W2 g gc ls most row1 (pushF (ahG91 asc) M (mk91 x came)) (came + 1) v out (lsOf (pushF (ahG91 asc) M (mk91 x came))) := by
 have hp := lsOf_push asc M x came h.inv.hp
 have hl := hp.flatten.length_eq
 have ho := (h.o.below (below_alloc (Below.refl _ _) o)).heap h.inv.le.1 (fun k hk => Nat.le_trans h.inv.le.1 (h.inv.hs.row_ k hk).1) ht
 exact ⟨hl, h1, ho, h.m.perm hp.symm, h.len, by have := h.c0; omega, by rw [hl]; exact hcb⟩
end
end Go.Proofs.Ytaehlbbjbeibfaa.X
end
