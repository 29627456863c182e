/- The order of a heap's things, and 'ahead' (texts, each with its number). -/
import Derived.Test.YtbmmlkifhhpjcaaX31
import Derived.Test.YtbmmlkifhhpjcaaR
namespace Go.Proofs.Ytbmmlkifhhpjcaa.X
open Go.RowKit Go.Proofs.YtbmmlkifhhpjcaaW.PrintWords Go.Proofs.YtbmmlkifhhpjcaaW.PrintLast Go.Proofs.YtbmmlkifhhpjcaaW.PrintMore
attribute [local go_sem] max2_int min2_int max_two min_two max_three min_three max_four min_four
set_option linter.unusedVariables false
set_option linter.unusedSimpArgs false

open Go.Proofs.Ytbmmlkifhhpjcaa
def less96 (x y : S48) : Bool := decide ((x.f0.size : Int) < (y.f0.size : Int))
set_option maxHeartbeats 1000000 in
theorem less96_calls (x y : S48) (w : World) : Calls Try.prog 19 #[.agg #[.string x.f0, .int .i64 x.f1], .agg #[.string y.f0, .int .i64 y.f1]] w fun e w' => e = .returned (.bool (less96 x y)) ∧ Below w.heap.size w w' := by
  unfold less96
  go_enter Try.func19, Try.ntmps19
  go_wp2
  go_ret
  exact ⟨by first | rfl | simp, below_alloc (below_alloc (Below.refl _ _) _) _⟩
def ah96 (a b : S96) : Bool := less96 a.f0 b.f0 || (!less96 b.f0 a.f0 && decide (a.f1 < b.f1))
def S96.cs (x : S96) : Array Value := #[.string x.f0.f0, .int .i64 x.f0.f1, .int .i64 x.f1]
theorem two_new3 (W : World) (t : TypeId) (a0 a1 a2 b0 b1 b2 : Value) {g : Nat} {o : Obj} (hg : W.heap[g]? = some o) :
    ((W.alloc (.cells #[a0, a1, a2] t)).alloc (.cells #[b0, b1, b2] t)).drew.heap[W.heap.size]? = some (.cells #[a0, a1, a2] t (0, 0)) ∧
    ((W.alloc (.cells #[a0, a1, a2] t)).alloc (.cells #[b0, b1, b2] t)).drew.heap[W.heap.size + 1]? = some (.cells #[b0, b1, b2] t (0, 0)) ∧
    ((W.alloc (.cells #[a0, a1, a2] t)).alloc (.cells #[b0, b1, b2] t)).drew.heap[g]? = some o ∧ Below W.heap.size W ((W.alloc (.cells #[a0, a1, a2] t)).alloc (.cells #[b0, b1, b2] t)).drew := by
  have h1 : ((W.alloc (.cells #[a0, a1, a2] t)).alloc (.cells #[b0, b1, b2] t)).drew.heap[W.heap.size]? = some (.cells #[a0, a1, a2] t (0, 0)) := blk_alloc (blk_new W _) _
  have h2 : ((W.alloc (.cells #[a0, a1, a2] t)).alloc (.cells #[b0, b1, b2] t)).drew.heap[W.heap.size + 1]? = some (.cells #[b0, b1, b2] t (0, 0)) := by
    have := blk_new (W.alloc (.cells #[a0, a1, a2] t)) (.cells #[b0, b1, b2] t)
    rw [show (W.alloc (.cells #[a0, a1, a2] t)).heap.size = W.heap.size + 1 by simp] at this
    exact this
  exact ⟨h1, h2, blk_alloc (blk_alloc hg _) _, below_drew (below_alloc (below_alloc (Below.refl _ _) _) _)⟩
section
variable {P : Program} {md : Region.Mode} {ops : Array Oper} {Q : Exit → Act → World → Prop} {S : World → Prop} {ds : List Nat} {T : Bool × List (List Nat × List Nat)}
/-- an operation that is not wanted -/
theorem pS (i : Nat) (N : Tmp) (l' : Array Bool) (hT : rtab md ops = T) {oi : Oper} {fuel : Nat} {l : Array Bool} {a a' : Act} {w : World} (h : wpAnyLast P md ops Q S ds fuel l' a' w)
    (hi : ops[i]? = some oi := by rfl) (hN : oi.dst = some N := by rfl) (hc : anyT T l.toList l'.toList i = true := by kernel_rfl) (hQ : ∀ c a w, Q (.panic c) (a.put oi.dst undef) w → Q (.panic c) a w := by exact fun _ _ _ h => h)
    (hw : Region.wanted oi (yielded ops a.tmps) = false := by rfl)
    (ha : a.put (some N) undef = a' := by simp only [Act.put, List.setIfInBounds_toArray, List.set_cons_zero, List.set_cons_succ, i64_w, i32_w]; rfl) : wpAnyLast P md ops Q S ds (fuel + 1) l a w :=
  pure_ l' hi hN (any_of hT hc) hQ (Or.inr ⟨hw, rfl⟩) ha h
end
def ahead96.T2 : Bool × List (List Nat × List Nat) := (true, [([], []), ([0], [0]), ([1], [1]), ([2], [2]), ([], []), ([4], [4]), ([], []), ([6], [6]), ([3, 5, 7], [3, 5, 7]), ([8, 8], [8]), ([9], [9]), ([10, 9], [9, 10]), ([11, 9], [9, 11]), ([12, 9], [9, 12]), ([9], [9]), ([14, 9], [9, 14]), ([9], [9]), ([16, 9], [9, 16]), ([13, 15, 17, 9, 9], [9, 13, 15, 17]), ([18, 9], [9, 18]), ([19, 18, 9], [9, 19]), ([20], [20]), ([21, 20], [20, 21]), ([20], [20]), ([23, 20], [20, 23]), ([22, 24, 20], [20, 22, 24]), ([20, 25, 9], [9, 20, 25]), ([9, 26], [9, 26]), ([27, 20, 0, 1, 2, 3, 4, 5, 6, 7, 8, 9, 10, 11, 12, 13, 14, 15, 16, 17, 18, 19, 20, 21, 22, 23, 24, 25, 26, 27], [27])])
def ahead96.B2 : List Nat := [0, 1, 3, 7, 0, 16, 0, 64, 255, 511, 1023, 2047, 4095, 8191, 1023, 17407, 1023, 66559, 262143, 524287, 1048575, 2097151, 4194303, 2097151, 10485759, 33554431, 67108863, 134217727, 268435455]
theorem ahead96.tab2 : rtab .any (opsOf Try.f49 2) = ahead96.T2 := by kernel_rfl
theorem ahead96.bits2 : waitsOk ahead96.T2.2 ahead96.B2 = true := by kernel_rfl
theorem keepT {W W1 : World} {p q g : Nat} {x y : S96} {f0 f2 : Value} {t : TypeId} (h : W.heap[p]? = some (.cells x.cs 96 (0, 0)) ∧ W.heap[q]? = some (.cells y.cs 96 (0, 0)) ∧ W.heap[g]? = some (.cells #[f0, .func (.func 19) #[] #[], f2] t (0, 0))) (hb : Below W.heap.size W W1) :
    W1.cell? ⟨p, 0, none⟩ = some (.string x.f0.f0) ∧ W1.cell? ⟨p, 1, none⟩ = some (.int .i64 x.f0.f1) ∧ W1.cell? ⟨p, 2, none⟩ = some (.int .i64 x.f1) ∧ W1.cell? ⟨q, 0, none⟩ = some (.string y.f0.f0) ∧ W1.cell? ⟨q, 1, none⟩ = some (.int .i64 y.f0.f1) ∧ W1.cell? ⟨q, 2, none⟩ = some (.int .i64 y.f1) ∧ W1.cell? ⟨g, 1, none⟩ = some (.func (.func 19) #[] #[]) := by
  have h1 := blk_below h.1 hb
  have h2 := blk_below h.2.1 hb
  have h3 := blk_below h.2.2 hb
  exact ⟨(blk_cell h1 0).trans rfl, (blk_cell h1 1).trans rfl, (blk_cell h1 2).trans rfl, (blk_cell h2 0).trans rfl, (blk_cell h2 1).trans rfl, (blk_cell h2 2).trans rfl, (blk_cell h3 1).trans rfl⟩
set_option maxHeartbeats 4000000 in
set_option maxRecDepth 1000000 in
theorem ahead96_calls (W : World) (g base : Nat) (row : Option Nat) (L : List S96) (came i j : Int) (hS : HS96 W g base row L came) (hi0 : 0 ≤ i) (hi1 : i < (L.length : Int)) (hj0 : 0 ≤ j) (hj1 : j < (L.length : Int)) :
    Calls Try.prog 49 #[.pointer (some ⟨g, 0, none⟩), .int .i64 i, .int .i64 j] W fun e w' => e = .returned (.bool (ah96 (rd_T96 L i) (rd_T96 L j))) ∧ Below W.heap.size W w' := by
  have HB := Aside0.mk (Below.refl W.heap.size W)
  obtain ⟨v, hv, hb, hR, hg⟩ := hS
  obtain ⟨A, c, rfl⟩ := Kd.R_slice hR
  have hC := (Kd.R_reads' hR).2.2
  obtain ⟨ad, e1, x0, x1, x2⟩ := at_T96 hC i hi0 hi1
  obtain ⟨ad2, e2, y0, y1, y2⟩ := at_T96 hC j hj0 hj1
  subst e1
  obtain rfl : ad = ad2 := by injection e2
  have c0 : W.cell? ⟨g, 0, none⟩ = some (.slice (some ad) L.length c) := (blk_cell hb 0).trans rfl
  have p1 := eq_true hi0
  have p2 := eq_true hi1
  have p3 := eq_true hj0
  have p4 := eq_true hj1
  have HG := Aside0.mk hb
  clear hC e2 hv hb hR hg
  generalize rd_T96 L i = x at x0 x1 x2 ⊢
  generalize rd_T96 L j = y at y0 y1 y2 ⊢
  go_enter Try.func49, Try.ntmps49
  go_upto_region 1 with (fail)
  go_cut [7, 8] (fun v7 v8 wc => ∃ p q : Nat, v7 = .pointer (some ⟨p, 0, none⟩) ∧ v8 = .pointer (some ⟨q, 0, none⟩) ∧ Aside0 (wc.heap[p]? = some (.cells x.cs 96 (0, 0)) ∧ wc.heap[q]? = some (.cells y.cs 96 (0, 0)) ∧ wc.heap[g]? = some (.cells #[.slice (some ad) L.length c, .func (.func 19) #[] #[], .int .i64 came] 58 (0, 0))) ∧ Aside0 (Below W.heap.size W wc))
  case first =>
    go_region_held3 (fun w' => w'.cell? ⟨g, 0, none⟩ = some (.slice (some ad) L.length c) ∧ w'.cell? (ad.add (i.toNat * 3)) = some (.string x.f0.f0) ∧ w'.cell? ⟨(ad.add (i.toNat * 3)).block, (ad.add (i.toNat * 3)).off + 1, none⟩ = some (.int .i64 x.f0.f1) ∧ w'.cell? ⟨(ad.add (i.toNat * 3)).block, (ad.add (i.toNat * 3)).off + 2, none⟩ = some (.int .i64 x.f1) ∧ w'.cell? (ad.add (j.toNat * 3)) = some (.string y.f0.f0) ∧ w'.cell? ⟨(ad.add (j.toNat * 3)).block, (ad.add (j.toNat * 3)).off + 1, none⟩ = some (.int .i64 y.f0.f1) ∧ w'.cell? ⟨(ad.add (j.toNat * 3)).block, (ad.add (j.toNat * 3)).off + 2, none⟩ = some (.int .i64 y.f1)) (go_keep) (fail)
    all_goals
      go_wp2
      go_meet
      obtain ⟨h1, h2, h3, h4⟩ := two_new3 W 96 _ _ _ _ _ _ HG.out
      first
        | exact ⟨_, _, rfl, rfl, ⟨h1, h2, h3⟩, ⟨h4⟩⟩
        | exact ⟨_, _, rfl, rfl, ⟨h2, h1, h3⟩, ⟨h4⟩⟩
  case rest =>
    obtain ⟨p, q, rfl, rfl, HP, HB2⟩ := hcut
    clear x0 x1 x2 y0 y1 y2 c0 p1 p2 p3 p4 HB HG
    obtain ⟨b1, hb1⟩ : ∃ b, less96 x.f0 y.f0 = b := ⟨_, rfl⟩
    obtain ⟨b2, hb2⟩ : ∃ b, less96 y.f0 x.f0 = b := ⟨_, rfl⟩
    have hl1 := less96_calls x.f0 y.f0
    have hl2 := less96_calls y.f0 x.f0
    rw [hb1] at hl1
    rw [hb2] at hl2
    have HL1 := Aside0.mk hl1
    have HL2 := Aside0.mk hl2
    have hah : Aside0 (ah96 x y = (b1 || (!b2 && decide (x.f1 < y.f1)))) := ⟨by unfold ah96; rw [hb1, hb2]⟩
    have he := fun (vs : Array Value) (w : World) => enters_ Try.func19 (by kernel_rfl) rfl vs w
    clear hb1 hb2 hl1 hl2
    have hst := keepT HP.out (Below.refl _ _)
    obtain ⟨s0, s1, s2, s3, s4, s5, s6⟩ := hst
    have HBw := Aside0.mk (below_drew (Below.refl wc.heap.size wc))
    go_upto_region 2 with (fail)
    cases b1
    · cases b2
      · skip
        refine start_ (n := 29) (S := fun w' => w'.cell? ⟨p, 0, none⟩ = some (.string x.f0.f0) ∧ w'.cell? ⟨p, 1, none⟩ = some (.int .i64 x.f0.f1) ∧ w'.cell? ⟨p, 2, none⟩ = some (.int .i64 x.f1) ∧ w'.cell? ⟨q, 0, none⟩ = some (.string y.f0.f0) ∧ w'.cell? ⟨q, 1, none⟩ = some (.int .i64 y.f0.f1) ∧ w'.cell? ⟨q, 2, none⟩ = some (.int .i64 y.f1) ∧ w'.cell? ⟨g, 1, none⟩ = some (.func (.func 19) #[] #[])) (ds := []) #[false, false, false, false, false, false, false, false, false, false, false, false, false, false, false, false, false, false, false, false, false, false, false, false, false, false, false, false, false] (by kernel_rfl) rfl rfl (keepT HP.out HBw.out) (fun hHeld => ?_)
        refine with_tabW ahead96.tab2 ahead96.bits2 (fun HT_ HW_ => ?_)
        clear s0 s1 s2 s3 s4 s5 s6
        refine pY 0 23 #[true, false, false, false, false, false, false, false, false, false, false, false, false, false, false, false, false, false, false, false, false, false, false, false, false, false, false, false, false] HT_.out ?_
        refine pY 1 24 #[true, true, false, false, false, false, false, false, false, false, false, false, false, false, false, false, false, false, false, false, false, false, false, false, false, false, false, false, false] HT_.out ?_
        refine pY 2 25 #[true, true, true, false, false, false, false, false, false, false, false, false, false, false, false, false, false, false, false, false, false, false, false, false, false, false, false, false, false] HT_.out ?_
        refine take_ (i := 3) (N := some 26) (v := ?_) (a' := ?_) #[true, true, true, true, false, false, false, false, false, false, false, false, false, false, false, false, false, false, false, false, false, false, false, false, false, false, false, false, false] rfl rfl (take_ofW HT_.out HW_.out (by kernel_rfl)) (fun _ _ _ h => h) (Or.inl ⟨by rfl, ?_⟩) hHeld ?_ ?_
        rotate_left
        · rintro w' ⟨s0, s1, s2, s3, s4, s5, s6⟩
          go_simp
          with_reducible rfl
        rotate_left
        · simp only [Act.put, List.setIfInBounds_toArray, List.set_cons_zero, List.set_cons_succ, i64_w, i32_w]
          rfl
        refine pY 4 27 #[true, true, true, true, true, false, false, false, false, false, false, false, false, false, false, false, false, false, false, false, false, false, false, false, false, false, false, false, false] HT_.out ?_
        refine take_ (i := 5) (N := some 28) (v := ?_) (a' := ?_) #[true, true, true, true, true, true, false, false, false, false, false, false, false, false, false, false, false, false, false, false, false, false, false, false, false, false, false, false, false] rfl rfl (take_ofW HT_.out HW_.out (by kernel_rfl)) (fun _ _ _ h => h) (Or.inl ⟨by rfl, ?_⟩) hHeld ?_ ?_
        rotate_left
        · rintro w' ⟨s0, s1, s2, s3, s4, s5, s6⟩
          go_simp
          with_reducible rfl
        rotate_left
        · simp only [Act.put, List.setIfInBounds_toArray, List.set_cons_zero, List.set_cons_succ, i64_w, i32_w]
          rfl
        refine pY 6 29 #[true, true, true, true, true, true, true, false, false, false, false, false, false, false, false, false, false, false, false, false, false, false, false, false, false, false, false, false, false] HT_.out ?_
        refine take_ (i := 7) (N := some 30) (v := ?_) (a' := ?_) #[true, true, true, true, true, true, true, true, false, false, false, false, false, false, false, false, false, false, false, false, false, false, false, false, false, false, false, false, false] rfl rfl (take_ofW HT_.out HW_.out (by kernel_rfl)) (fun _ _ _ h => h) (Or.inl ⟨by rfl, ?_⟩) hHeld ?_ ?_
        rotate_left
        · rintro w' ⟨s0, s1, s2, s3, s4, s5, s6⟩
          go_simp
          with_reducible rfl
        rotate_left
        · simp only [Act.put, List.setIfInBounds_toArray, List.set_cons_zero, List.set_cons_succ, i64_w, i32_w]
          rfl
        refine one_ (i := 8) (N := some 31) #[true, true, true, true, true, true, true, true, true, false, false, false, false, false, false, false, false, false, false, false, false, false, false, false, false, false, false, false, false] rfl rfl (one_of HT_.out (by kernel_rfl)) (by decide) (fun K hK => ?_)
        refine call_ 19 #[.agg #[.string x.f0.f0, .int .i64 x.f0.f1], .agg #[.string y.f0.f0, .int .i64 y.f0.f1]] (by rfl) rfl (by unfold execOp; simp [resolve, Deferred.ofValue, invoke, Act.eval, he]) ?_
        refine (HL1.out _).mono ?_
        rintro e w8 ⟨rfl, hb_⟩
        have hbb8 := below_step HBw.out hb_
        clear hb_
        refine ⟨_, rfl, ?_⟩
        refine hK.out _ _ (keepT HP.out hbb8) (fun hHeld => ?_)
        clear hK K
        refine norm_ (a' := ?_) ?_ ?_
        rotate_left
        · show Act.put _ (some 31) _ = _
          simp only [Act.put, List.setIfInBounds_toArray, List.set_cons_zero, List.set_cons_succ, i64_w, i32_w]
          rfl
        refine pY 9 32 #[true, true, true, true, true, true, true, true, true, true, false, false, false, false, false, false, false, false, false, false, false, false, false, false, false, false, false, false, false] HT_.out ?_
        refine pY 10 33 #[true, true, true, true, true, true, true, true, true, true, true, false, false, false, false, false, false, false, false, false, false, false, false, false, false, false, false, false, false] HT_.out ?_
        refine pY 11 34 #[true, true, true, true, true, true, true, true, true, true, true, true, false, false, false, false, false, false, false, false, false, false, false, false, false, false, false, false, false] HT_.out ?_
        refine pY 12 35 #[true, true, true, true, true, true, true, true, true, true, true, true, true, false, false, false, false, false, false, false, false, false, false, false, false, false, false, false, false] HT_.out ?_
        refine take_ (i := 13) (N := some 36) (v := ?_) (a' := ?_) #[true, true, true, true, true, true, true, true, true, true, true, true, true, true, false, false, false, false, false, false, false, false, false, false, false, false, false, false, false] rfl rfl (take_ofW HT_.out HW_.out (by kernel_rfl)) (fun _ _ _ h => h) (Or.inl ⟨by rfl, ?_⟩) hHeld ?_ ?_
        rotate_left
        · rintro w' ⟨s0, s1, s2, s3, s4, s5, s6⟩
          go_simp
          with_reducible rfl
        rotate_left
        · simp only [Act.put, List.setIfInBounds_toArray, List.set_cons_zero, List.set_cons_succ, i64_w, i32_w]
          rfl
        refine pY 14 37 #[true, true, true, true, true, true, true, true, true, true, true, true, true, true, true, false, false, false, false, false, false, false, false, false, false, false, false, false, false] HT_.out ?_
        refine take_ (i := 15) (N := some 38) (v := ?_) (a' := ?_) #[true, true, true, true, true, true, true, true, true, true, true, true, true, true, true, true, false, false, false, false, false, false, false, false, false, false, false, false, false] rfl rfl (take_ofW HT_.out HW_.out (by kernel_rfl)) (fun _ _ _ h => h) (Or.inl ⟨by rfl, ?_⟩) hHeld ?_ ?_
        rotate_left
        · rintro w' ⟨s0, s1, s2, s3, s4, s5, s6⟩
          go_simp
          with_reducible rfl
        rotate_left
        · simp only [Act.put, List.setIfInBounds_toArray, List.set_cons_zero, List.set_cons_succ, i64_w, i32_w]
          rfl
        refine pY 16 39 #[true, true, true, true, true, true, true, true, true, true, true, true, true, true, true, true, true, false, false, false, false, false, false, false, false, false, false, false, false] HT_.out ?_
        refine take_ (i := 17) (N := some 40) (v := ?_) (a' := ?_) #[true, true, true, true, true, true, true, true, true, true, true, true, true, true, true, true, true, true, false, false, false, false, false, false, false, false, false, false, false] rfl rfl (take_ofW HT_.out HW_.out (by kernel_rfl)) (fun _ _ _ h => h) (Or.inl ⟨by rfl, ?_⟩) hHeld ?_ ?_
        rotate_left
        · rintro w' ⟨s0, s1, s2, s3, s4, s5, s6⟩
          go_simp
          with_reducible rfl
        rotate_left
        · simp only [Act.put, List.setIfInBounds_toArray, List.set_cons_zero, List.set_cons_succ, i64_w, i32_w]
          rfl
        refine one_ (i := 18) (N := some 41) #[true, true, true, true, true, true, true, true, true, true, true, true, true, true, true, true, true, true, true, false, false, false, false, false, false, false, false, false, false] rfl rfl (one_of HT_.out (by kernel_rfl)) (by decide) (fun K hK => ?_)
        refine call_ 19 #[.agg #[.string y.f0.f0, .int .i64 y.f0.f1], .agg #[.string x.f0.f0, .int .i64 x.f0.f1]] (by rfl) rfl (by unfold execOp; simp [resolve, Deferred.ofValue, invoke, Act.eval, he]) ?_
        refine (HL2.out _).mono ?_
        rintro e w18 ⟨rfl, hb_⟩
        have hbb18 := below_step hbb8 hb_
        clear hb_
        refine ⟨_, rfl, ?_⟩
        refine hK.out _ _ (keepT HP.out hbb18) (fun hHeld => ?_)
        clear hK K
        refine norm_ (a' := ?_) ?_ ?_
        rotate_left
        · show Act.put _ (some 41) _ = _
          simp only [Act.put, List.setIfInBounds_toArray, List.set_cons_zero, List.set_cons_succ, i64_w, i32_w]
          rfl
        refine pY 19 42 #[true, true, true, true, true, true, true, true, true, true, true, true, true, true, true, true, true, true, true, true, false, false, false, false, false, false, false, false, false] HT_.out ?_
        refine pY 20 43 #[true, true, true, true, true, true, true, true, true, true, true, true, true, true, true, true, true, true, true, true, true, false, false, false, false, false, false, false, false] HT_.out ?_
        refine pY 21 44 #[true, true, true, true, true, true, true, true, true, true, true, true, true, true, true, true, true, true, true, true, true, true, false, false, false, false, false, false, false] HT_.out ?_
        refine take_ (i := 22) (N := some 45) (v := ?_) (a' := ?_) #[true, true, true, true, true, true, true, true, true, true, true, true, true, true, true, true, true, true, true, true, true, true, true, false, false, false, false, false, false] rfl rfl (take_ofW HT_.out HW_.out (by kernel_rfl)) (fun _ _ _ h => h) (Or.inl ⟨by rfl, ?_⟩) hHeld ?_ ?_
        rotate_left
        · rintro w' ⟨s0, s1, s2, s3, s4, s5, s6⟩
          go_simp
          with_reducible rfl
        rotate_left
        · simp only [Act.put, List.setIfInBounds_toArray, List.set_cons_zero, List.set_cons_succ, i64_w, i32_w]
          rfl
        refine pY 23 46 #[true, true, true, true, true, true, true, true, true, true, true, true, true, true, true, true, true, true, true, true, true, true, true, true, false, false, false, false, false] HT_.out ?_
        refine take_ (i := 24) (N := some 47) (v := ?_) (a' := ?_) #[true, true, true, true, true, true, true, true, true, true, true, true, true, true, true, true, true, true, true, true, true, true, true, true, true, false, false, false, false] rfl rfl (take_ofW HT_.out HW_.out (by kernel_rfl)) (fun _ _ _ h => h) (Or.inl ⟨by rfl, ?_⟩) hHeld ?_ ?_
        rotate_left
        · rintro w' ⟨s0, s1, s2, s3, s4, s5, s6⟩
          go_simp
          with_reducible rfl
        rotate_left
        · simp only [Act.put, List.setIfInBounds_toArray, List.set_cons_zero, List.set_cons_succ, i64_w, i32_w]
          rfl
        refine pY 25 48 #[true, true, true, true, true, true, true, true, true, true, true, true, true, true, true, true, true, true, true, true, true, true, true, true, true, true, false, false, false] HT_.out ?_
        refine pY 26 49 #[true, true, true, true, true, true, true, true, true, true, true, true, true, true, true, true, true, true, true, true, true, true, true, true, true, true, true, false, false] HT_.out ?_
        refine pY 27 50 #[true, true, true, true, true, true, true, true, true, true, true, true, true, true, true, true, true, true, true, true, true, true, true, true, true, true, true, true, false] HT_.out ?_
        refine pY 28 6 #[true, true, true, true, true, true, true, true, true, true, true, true, true, true, true, true, true, true, true, true, true, true, true, true, true, true, true, true, true] HT_.out ?_
        refine done_ (done_of HT_.out (by kernel_rfl)) ?_
        go_wp2
        go_ret
        exact ⟨by rw [hah.out]; rfl, below_step HB2.out hbb18⟩
      · skip
        refine start_ (n := 29) (S := fun w' => w'.cell? ⟨p, 0, none⟩ = some (.string x.f0.f0) ∧ w'.cell? ⟨p, 1, none⟩ = some (.int .i64 x.f0.f1) ∧ w'.cell? ⟨p, 2, none⟩ = some (.int .i64 x.f1) ∧ w'.cell? ⟨q, 0, none⟩ = some (.string y.f0.f0) ∧ w'.cell? ⟨q, 1, none⟩ = some (.int .i64 y.f0.f1) ∧ w'.cell? ⟨q, 2, none⟩ = some (.int .i64 y.f1) ∧ w'.cell? ⟨g, 1, none⟩ = some (.func (.func 19) #[] #[])) (ds := []) #[false, false, false, false, false, false, false, false, false, false, false, false, false, false, false, false, false, false, false, false, false, false, false, false, false, false, false, false, false] (by kernel_rfl) rfl rfl (keepT HP.out HBw.out) (fun hHeld => ?_)
        refine with_tabW ahead96.tab2 ahead96.bits2 (fun HT_ HW_ => ?_)
        clear s0 s1 s2 s3 s4 s5 s6
        refine pY 0 23 #[true, false, false, false, false, false, false, false, false, false, false, false, false, false, false, false, false, false, false, false, false, false, false, false, false, false, false, false, false] HT_.out ?_
        refine pY 1 24 #[true, true, false, false, false, false, false, false, false, false, false, false, false, false, false, false, false, false, false, false, false, false, false, false, false, false, false, false, false] HT_.out ?_
        refine pY 2 25 #[true, true, true, false, false, false, false, false, false, false, false, false, false, false, false, false, false, false, false, false, false, false, false, false, false, false, false, false, false] HT_.out ?_
        refine take_ (i := 3) (N := some 26) (v := ?_) (a' := ?_) #[true, true, true, true, false, false, false, false, false, false, false, false, false, false, false, false, false, false, false, false, false, false, false, false, false, false, false, false, false] rfl rfl (take_ofW HT_.out HW_.out (by kernel_rfl)) (fun _ _ _ h => h) (Or.inl ⟨by rfl, ?_⟩) hHeld ?_ ?_
        rotate_left
        · rintro w' ⟨s0, s1, s2, s3, s4, s5, s6⟩
          go_simp
          with_reducible rfl
        rotate_left
        · simp only [Act.put, List.setIfInBounds_toArray, List.set_cons_zero, List.set_cons_succ, i64_w, i32_w]
          rfl
        refine pY 4 27 #[true, true, true, true, true, false, false, false, false, false, false, false, false, false, false, false, false, false, false, false, false, false, false, false, false, false, false, false, false] HT_.out ?_
        refine take_ (i := 5) (N := some 28) (v := ?_) (a' := ?_) #[true, true, true, true, true, true, false, false, false, false, false, false, false, false, false, false, false, false, false, false, false, false, false, false, false, false, false, false, false] rfl rfl (take_ofW HT_.out HW_.out (by kernel_rfl)) (fun _ _ _ h => h) (Or.inl ⟨by rfl, ?_⟩) hHeld ?_ ?_
        rotate_left
        · rintro w' ⟨s0, s1, s2, s3, s4, s5, s6⟩
          go_simp
          with_reducible rfl
        rotate_left
        · simp only [Act.put, List.setIfInBounds_toArray, List.set_cons_zero, List.set_cons_succ, i64_w, i32_w]
          rfl
        refine pY 6 29 #[true, true, true, true, true, true, true, false, false, false, false, false, false, false, false, false, false, false, false, false, false, false, false, false, false, false, false, false, false] HT_.out ?_
        refine take_ (i := 7) (N := some 30) (v := ?_) (a' := ?_) #[true, true, true, true, true, true, true, true, false, false, false, false, false, false, false, false, false, false, false, false, false, false, false, false, false, false, false, false, false] rfl rfl (take_ofW HT_.out HW_.out (by kernel_rfl)) (fun _ _ _ h => h) (Or.inl ⟨by rfl, ?_⟩) hHeld ?_ ?_
        rotate_left
        · rintro w' ⟨s0, s1, s2, s3, s4, s5, s6⟩
          go_simp
          with_reducible rfl
        rotate_left
        · simp only [Act.put, List.setIfInBounds_toArray, List.set_cons_zero, List.set_cons_succ, i64_w, i32_w]
          rfl
        refine one_ (i := 8) (N := some 31) #[true, true, true, true, true, true, true, true, true, false, false, false, false, false, false, false, false, false, false, false, false, false, false, false, false, false, false, false, false] rfl rfl (one_of HT_.out (by kernel_rfl)) (by decide) (fun K hK => ?_)
        refine call_ 19 #[.agg #[.string x.f0.f0, .int .i64 x.f0.f1], .agg #[.string y.f0.f0, .int .i64 y.f0.f1]] (by rfl) rfl (by unfold execOp; simp [resolve, Deferred.ofValue, invoke, Act.eval, he]) ?_
        refine (HL1.out _).mono ?_
        rintro e w8 ⟨rfl, hb_⟩
        have hbb8 := below_step HBw.out hb_
        clear hb_
        refine ⟨_, rfl, ?_⟩
        refine hK.out _ _ (keepT HP.out hbb8) (fun hHeld => ?_)
        clear hK K
        refine norm_ (a' := ?_) ?_ ?_
        rotate_left
        · show Act.put _ (some 31) _ = _
          simp only [Act.put, List.setIfInBounds_toArray, List.set_cons_zero, List.set_cons_succ, i64_w, i32_w]
          rfl
        refine pY 9 32 #[true, true, true, true, true, true, true, true, true, true, false, false, false, false, false, false, false, false, false, false, false, false, false, false, false, false, false, false, false] HT_.out ?_
        refine pY 10 33 #[true, true, true, true, true, true, true, true, true, true, true, false, false, false, false, false, false, false, false, false, false, false, false, false, false, false, false, false, false] HT_.out ?_
        refine pY 11 34 #[true, true, true, true, true, true, true, true, true, true, true, true, false, false, false, false, false, false, false, false, false, false, false, false, false, false, false, false, false] HT_.out ?_
        refine pY 12 35 #[true, true, true, true, true, true, true, true, true, true, true, true, true, false, false, false, false, false, false, false, false, false, false, false, false, false, false, false, false] HT_.out ?_
        refine take_ (i := 13) (N := some 36) (v := ?_) (a' := ?_) #[true, true, true, true, true, true, true, true, true, true, true, true, true, true, false, false, false, false, false, false, false, false, false, false, false, false, false, false, false] rfl rfl (take_ofW HT_.out HW_.out (by kernel_rfl)) (fun _ _ _ h => h) (Or.inl ⟨by rfl, ?_⟩) hHeld ?_ ?_
        rotate_left
        · rintro w' ⟨s0, s1, s2, s3, s4, s5, s6⟩
          go_simp
          with_reducible rfl
        rotate_left
        · simp only [Act.put, List.setIfInBounds_toArray, List.set_cons_zero, List.set_cons_succ, i64_w, i32_w]
          rfl
        refine pY 14 37 #[true, true, true, true, true, true, true, true, true, true, true, true, true, true, true, false, false, false, false, false, false, false, false, false, false, false, false, false, false] HT_.out ?_
        refine take_ (i := 15) (N := some 38) (v := ?_) (a' := ?_) #[true, true, true, true, true, true, true, true, true, true, true, true, true, true, true, true, false, false, false, false, false, false, false, false, false, false, false, false, false] rfl rfl (take_ofW HT_.out HW_.out (by kernel_rfl)) (fun _ _ _ h => h) (Or.inl ⟨by rfl, ?_⟩) hHeld ?_ ?_
        rotate_left
        · rintro w' ⟨s0, s1, s2, s3, s4, s5, s6⟩
          go_simp
          with_reducible rfl
        rotate_left
        · simp only [Act.put, List.setIfInBounds_toArray, List.set_cons_zero, List.set_cons_succ, i64_w, i32_w]
          rfl
        refine pY 16 39 #[true, true, true, true, true, true, true, true, true, true, true, true, true, true, true, true, true, false, false, false, false, false, false, false, false, false, false, false, false] HT_.out ?_
        refine take_ (i := 17) (N := some 40) (v := ?_) (a' := ?_) #[true, true, true, true, true, true, true, true, true, true, true, true, true, true, true, true, true, true, false, false, false, false, false, false, false, false, false, false, false] rfl rfl (take_ofW HT_.out HW_.out (by kernel_rfl)) (fun _ _ _ h => h) (Or.inl ⟨by rfl, ?_⟩) hHeld ?_ ?_
        rotate_left
        · rintro w' ⟨s0, s1, s2, s3, s4, s5, s6⟩
          go_simp
          with_reducible rfl
        rotate_left
        · simp only [Act.put, List.setIfInBounds_toArray, List.set_cons_zero, List.set_cons_succ, i64_w, i32_w]
          rfl
        refine one_ (i := 18) (N := some 41) #[true, true, true, true, true, true, true, true, true, true, true, true, true, true, true, true, true, true, true, false, false, false, false, false, false, false, false, false, false] rfl rfl (one_of HT_.out (by kernel_rfl)) (by decide) (fun K hK => ?_)
        refine call_ 19 #[.agg #[.string y.f0.f0, .int .i64 y.f0.f1], .agg #[.string x.f0.f0, .int .i64 x.f0.f1]] (by rfl) rfl (by unfold execOp; simp [resolve, Deferred.ofValue, invoke, Act.eval, he]) ?_
        refine (HL2.out _).mono ?_
        rintro e w18 ⟨rfl, hb_⟩
        have hbb18 := below_step hbb8 hb_
        clear hb_
        refine ⟨_, rfl, ?_⟩
        refine hK.out _ _ (keepT HP.out hbb18) (fun hHeld => ?_)
        clear hK K
        refine norm_ (a' := ?_) ?_ ?_
        rotate_left
        · show Act.put _ (some 41) _ = _
          simp only [Act.put, List.setIfInBounds_toArray, List.set_cons_zero, List.set_cons_succ, i64_w, i32_w]
          rfl
        refine pY 19 42 #[true, true, true, true, true, true, true, true, true, true, true, true, true, true, true, true, true, true, true, true, false, false, false, false, false, false, false, false, false] HT_.out ?_
        refine pY 20 43 #[true, true, true, true, true, true, true, true, true, true, true, true, true, true, true, true, true, true, true, true, true, false, false, false, false, false, false, false, false] HT_.out ?_
        refine pS 21 44 #[true, true, true, true, true, true, true, true, true, true, true, true, true, true, true, true, true, true, true, true, true, true, false, false, false, false, false, false, false] HT_.out ?_
        refine pS 22 45 #[true, true, true, true, true, true, true, true, true, true, true, true, true, true, true, true, true, true, true, true, true, true, true, false, false, false, false, false, false] HT_.out ?_
        refine pS 23 46 #[true, true, true, true, true, true, true, true, true, true, true, true, true, true, true, true, true, true, true, true, true, true, true, true, false, false, false, false, false] HT_.out ?_
        refine pS 24 47 #[true, true, true, true, true, true, true, true, true, true, true, true, true, true, true, true, true, true, true, true, true, true, true, true, true, false, false, false, false] HT_.out ?_
        refine pS 25 48 #[true, true, true, true, true, true, true, true, true, true, true, true, true, true, true, true, true, true, true, true, true, true, true, true, true, true, false, false, false] HT_.out ?_
        refine pY 26 49 #[true, true, true, true, true, true, true, true, true, true, true, true, true, true, true, true, true, true, true, true, true, true, true, true, true, true, true, false, false] HT_.out ?_
        refine pY 27 50 #[true, true, true, true, true, true, true, true, true, true, true, true, true, true, true, true, true, true, true, true, true, true, true, true, true, true, true, true, false] HT_.out ?_
        refine pY 28 6 #[true, true, true, true, true, true, true, true, true, true, true, true, true, true, true, true, true, true, true, true, true, true, true, true, true, true, true, true, true] HT_.out ?_
        refine done_ (done_of HT_.out (by kernel_rfl)) ?_
        go_wp2
        go_ret
        exact ⟨by rw [hah.out]; rfl, below_step HB2.out hbb18⟩
    · skip
      refine start_ (n := 29) (S := fun w' => w'.cell? ⟨p, 0, none⟩ = some (.string x.f0.f0) ∧ w'.cell? ⟨p, 1, none⟩ = some (.int .i64 x.f0.f1) ∧ w'.cell? ⟨p, 2, none⟩ = some (.int .i64 x.f1) ∧ w'.cell? ⟨q, 0, none⟩ = some (.string y.f0.f0) ∧ w'.cell? ⟨q, 1, none⟩ = some (.int .i64 y.f0.f1) ∧ w'.cell? ⟨q, 2, none⟩ = some (.int .i64 y.f1) ∧ w'.cell? ⟨g, 1, none⟩ = some (.func (.func 19) #[] #[])) (ds := []) #[false, false, false, false, false, false, false, false, false, false, false, false, false, false, false, false, false, false, false, false, false, false, false, false, false, false, false, false, false] (by kernel_rfl) rfl rfl (keepT HP.out HBw.out) (fun hHeld => ?_)
      refine with_tabW ahead96.tab2 ahead96.bits2 (fun HT_ HW_ => ?_)
      clear s0 s1 s2 s3 s4 s5 s6
      refine pY 0 23 #[true, false, false, false, false, false, false, false, false, false, false, false, false, false, false, false, false, false, false, false, false, false, false, false, false, false, false, false, false] HT_.out ?_
      refine pY 1 24 #[true, true, false, false, false, false, false, false, false, false, false, false, false, false, false, false, false, false, false, false, false, false, false, false, false, false, false, false, false] HT_.out ?_
      refine pY 2 25 #[true, true, true, false, false, false, false, false, false, false, false, false, false, false, false, false, false, false, false, false, false, false, false, false, false, false, false, false, false] HT_.out ?_
      refine take_ (i := 3) (N := some 26) (v := ?_) (a' := ?_) #[true, true, true, true, false, false, false, false, false, false, false, false, false, false, false, false, false, false, false, false, false, false, false, false, false, false, false, false, false] rfl rfl (take_ofW HT_.out HW_.out (by kernel_rfl)) (fun _ _ _ h => h) (Or.inl ⟨by rfl, ?_⟩) hHeld ?_ ?_
      rotate_left
      · rintro w' ⟨s0, s1, s2, s3, s4, s5, s6⟩
        go_simp
        with_reducible rfl
      rotate_left
      · simp only [Act.put, List.setIfInBounds_toArray, List.set_cons_zero, List.set_cons_succ, i64_w, i32_w]
        rfl
      refine pY 4 27 #[true, true, true, true, true, false, false, false, false, false, false, false, false, false, false, false, false, false, false, false, false, false, false, false, false, false, false, false, false] HT_.out ?_
      refine take_ (i := 5) (N := some 28) (v := ?_) (a' := ?_) #[true, true, true, true, true, true, false, false, false, false, false, false, false, false, false, false, false, false, false, false, false, false, false, false, false, false, false, false, false] rfl rfl (take_ofW HT_.out HW_.out (by kernel_rfl)) (fun _ _ _ h => h) (Or.inl ⟨by rfl, ?_⟩) hHeld ?_ ?_
      rotate_left
      · rintro w' ⟨s0, s1, s2, s3, s4, s5, s6⟩
        go_simp
        with_reducible rfl
      rotate_left
      · simp only [Act.put, List.setIfInBounds_toArray, List.set_cons_zero, List.set_cons_succ, i64_w, i32_w]
        rfl
      refine pY 6 29 #[true, true, true, true, true, true, true, false, false, false, false, false, false, false, false, false, false, false, false, false, false, false, false, false, false, false, false, false, false] HT_.out ?_
      refine take_ (i := 7) (N := some 30) (v := ?_) (a' := ?_) #[true, true, true, true, true, true, true, true, false, false, false, false, false, false, false, false, false, false, false, false, false, false, false, false, false, false, false, false, false] rfl rfl (take_ofW HT_.out HW_.out (by kernel_rfl)) (fun _ _ _ h => h) (Or.inl ⟨by rfl, ?_⟩) hHeld ?_ ?_
      rotate_left
      · rintro w' ⟨s0, s1, s2, s3, s4, s5, s6⟩
        go_simp
        with_reducible rfl
      rotate_left
      · simp only [Act.put, List.setIfInBounds_toArray, List.set_cons_zero, List.set_cons_succ, i64_w, i32_w]
        rfl
      refine one_ (i := 8) (N := some 31) #[true, true, true, true, true, true, true, true, true, false, false, false, false, false, false, false, false, false, false, false, false, false, false, false, false, false, false, false, false] rfl rfl (one_of HT_.out (by kernel_rfl)) (by decide) (fun K hK => ?_)
      refine call_ 19 #[.agg #[.string x.f0.f0, .int .i64 x.f0.f1], .agg #[.string y.f0.f0, .int .i64 y.f0.f1]] (by rfl) rfl (by unfold execOp; simp [resolve, Deferred.ofValue, invoke, Act.eval, he]) ?_
      refine (HL1.out _).mono ?_
      rintro e w8 ⟨rfl, hb_⟩
      have hbb8 := below_step HBw.out hb_
      clear hb_
      refine ⟨_, rfl, ?_⟩
      refine hK.out _ _ (keepT HP.out hbb8) (fun hHeld => ?_)
      clear hK K
      refine norm_ (a' := ?_) ?_ ?_
      rotate_left
      · show Act.put _ (some 31) _ = _
        simp only [Act.put, List.setIfInBounds_toArray, List.set_cons_zero, List.set_cons_succ, i64_w, i32_w]
        rfl
      refine pY 9 32 #[true, true, true, true, true, true, true, true, true, true, false, false, false, false, false, false, false, false, false, false, false, false, false, false, false, false, false, false, false] HT_.out ?_
      refine pS 10 33 #[true, true, true, true, true, true, true, true, true, true, true, false, false, false, false, false, false, false, false, false, false, false, false, false, false, false, false, false, false] HT_.out ?_
      refine pS 11 34 #[true, true, true, true, true, true, true, true, true, true, true, true, false, false, false, false, false, false, false, false, false, false, false, false, false, false, false, false, false] HT_.out ?_
      refine pS 12 35 #[true, true, true, true, true, true, true, true, true, true, true, true, true, false, false, false, false, false, false, false, false, false, false, false, false, false, false, false, false] HT_.out ?_
      refine pS 13 36 #[true, true, true, true, true, true, true, true, true, true, true, true, true, true, false, false, false, false, false, false, false, false, false, false, false, false, false, false, false] HT_.out ?_
      refine pS 14 37 #[true, true, true, true, true, true, true, true, true, true, true, true, true, true, true, false, false, false, false, false, false, false, false, false, false, false, false, false, false] HT_.out ?_
      refine pS 15 38 #[true, true, true, true, true, true, true, true, true, true, true, true, true, true, true, true, false, false, false, false, false, false, false, false, false, false, false, false, false] HT_.out ?_
      refine pS 16 39 #[true, true, true, true, true, true, true, true, true, true, true, true, true, true, true, true, true, false, false, false, false, false, false, false, false, false, false, false, false] HT_.out ?_
      refine pS 17 40 #[true, true, true, true, true, true, true, true, true, true, true, true, true, true, true, true, true, true, false, false, false, false, false, false, false, false, false, false, false] HT_.out ?_
      refine pS 18 41 #[true, true, true, true, true, true, true, true, true, true, true, true, true, true, true, true, true, true, true, false, false, false, false, false, false, false, false, false, false] HT_.out ?_
      refine pS 19 42 #[true, true, true, true, true, true, true, true, true, true, true, true, true, true, true, true, true, true, true, true, false, false, false, false, false, false, false, false, false] HT_.out ?_
      refine pS 20 43 #[true, true, true, true, true, true, true, true, true, true, true, true, true, true, true, true, true, true, true, true, true, false, false, false, false, false, false, false, false] HT_.out ?_
      refine pS 21 44 #[true, true, true, true, true, true, true, true, true, true, true, true, true, true, true, true, true, true, true, true, true, true, false, false, false, false, false, false, false] HT_.out ?_
      refine pS 22 45 #[true, true, true, true, true, true, true, true, true, true, true, true, true, true, true, true, true, true, true, true, true, true, true, false, false, false, false, false, false] HT_.out ?_
      refine pS 23 46 #[true, true, true, true, true, true, true, true, true, true, true, true, true, true, true, true, true, true, true, true, true, true, true, true, false, false, false, false, false] HT_.out ?_
      refine pS 24 47 #[true, true, true, true, true, true, true, true, true, true, true, true, true, true, true, true, true, true, true, true, true, true, true, true, true, false, false, false, false] HT_.out ?_
      refine pS 25 48 #[true, true, true, true, true, true, true, true, true, true, true, true, true, true, true, true, true, true, true, true, true, true, true, true, true, true, false, false, false] HT_.out ?_
      refine pS 26 49 #[true, true, true, true, true, true, true, true, true, true, true, true, true, true, true, true, true, true, true, true, true, true, true, true, true, true, true, false, false] HT_.out ?_
      refine pY 27 50 #[true, true, true, true, true, true, true, true, true, true, true, true, true, true, true, true, true, true, true, true, true, true, true, true, true, true, true, true, false] HT_.out ?_
      refine pY 28 6 #[true, true, true, true, true, true, true, true, true, true, true, true, true, true, true, true, true, true, true, true, true, true, true, true, true, true, true, true, true] HT_.out ?_
      refine done_ (done_of HT_.out (by kernel_rfl)) ?_
      go_wp2
      go_ret
      exact ⟨by rw [hah.out]; rfl, below_step HB2.out hbb8⟩
theorem ahead96_nat (W : World) (g base : Nat) (row : Option Nat) (L : List S96) (came : Int) (i j : Nat) (b : Bool) (hS : HS96 W g base row L came) (hi : i < L.length) (hj : j < L.length) (hb : ah96 (hgt L i) (hgt L j) = b) :
    Calls Try.prog 49 #[.pointer (some ⟨g, 0, none⟩), .int .i64 i, .int .i64 j] W fun e w' => e = .returned (.bool b) ∧ Below W.heap.size W w' := by
  have := ahead96_calls W g base row L came i j hS (by omega) (by omega) (by omega) (by omega)
  rwa [rd96, rd96, Int.toNat_natCast, Int.toNat_natCast, hb] at this
section
variable {W : World} {base gr n cap : Nat} {ok : Nat → Prop} {L : List S96}
/-- one thing is put into its place -/
theorem put96 (hR : k96.R 96 W base ok (.slice (some ⟨gr, 0, none⟩) n cap) L) (i : Nat) (hi : i < n) (x : S96) :
    k96.R 96 (((W.setCell ⟨gr, i * 3, none⟩ (.string x.f0.f0)).setCell ⟨gr, i * 3 + 1, none⟩ (.int .i64 x.f0.f1)).setCell ⟨gr, i * 3 + 2, none⟩ (.int .i64 x.f1)) base ok (.slice (some ⟨gr, 0, none⟩) n cap) (L.set i x) ∧
    W.grownBy (((W.setCell ⟨gr, i * 3, none⟩ (.string x.f0.f0)).setCell ⟨gr, i * 3 + 1, none⟩ (.int .i64 x.f0.f1)).setCell ⟨gr, i * 3 + 2, none⟩ (.int .i64 x.f1)) (some gr) := by
  obtain ⟨c, hcl, hM, hcc, _⟩ := Kd.R_elem hR z96 i (by omega) (by omega)
  rw [Int.toNat_natCast] at hcc
  have h2 : k96.sz = 3 := rfl
  rw [h2] at hcl hcc
  have hd : c.take 0 ++ [.string x.f0.f0, .int .i64 x.f0.f1, .int .i64 x.f1] ++ c.drop (0 + 3) = [.string x.f0.f0, .int .i64 x.f0.f1, .int .i64 x.f1] := by
    rw [List.take_zero, List.nil_append, List.drop_of_length_le (by omega), List.append_nil]
  have := Kd.R_seg (okp := fun _ => False) hR i (by omega) (by omega) (c := c) (seg := [.string x.f0.f0, .int .i64 x.f0.f1, .int .i64 x.f1]) (j := 0) (x' := x) hcl (by rw [Int.toNat_natCast]; exact hcc) (by show 0 + 3 ≤ 3; omega) (by rw [show ([Value.string x.f0.f0, .int .i64 x.f0.f1, .int .i64 x.f1] : List Value).length = 3 from rfl, hd]; exact k96_mkM _ _ _ x) (fun k hk => hk.elim)
  rw [Int.toNat_natCast, h2, Nat.add_zero] at this
  exact this
/-- the world behind an exchange -/
def exW96 (w : World) (gr i j : Nat) (x y : S96) : World := (((((w.setCell ⟨gr, i * 3, none⟩ (.string x.f0.f0)).setCell ⟨gr, i * 3 + 1, none⟩ (.int .i64 x.f0.f1)).setCell ⟨gr, i * 3 + 2, none⟩ (.int .i64 x.f1)).setCell ⟨gr, j * 3, none⟩ (.string y.f0.f0)).setCell ⟨gr, j * 3 + 1, none⟩ (.int .i64 y.f0.f1)).setCell ⟨gr, j * 3 + 2, none⟩ (.int .i64 y.f1)
/-- two things change places -/
theorem swap96 (hR : k96.R 96 W base ok (.slice (some ⟨gr, 0, none⟩) n cap) L) (i j : Nat) (hi : i < n) (hj : j < n) :
    k96.R 96 (exW96 W gr i j (hgt L j) (hgt L i)) base ok (.slice (some ⟨gr, 0, none⟩) n cap) (swp L i j) ∧ W.grownBy (exW96 W gr i j (hgt L j) (hgt L i)) (some gr) := by
  obtain ⟨h1, g1⟩ := put96 hR i hi (hgt L j)
  obtain ⟨h2, g2⟩ := put96 h1 j hj (hgt L i)
  exact ⟨h2, g1.trans g2⟩
/-- a place: its cells -/
theorem cells96 (hR : k96.R 96 W base ok (.slice (some ⟨gr, 0, none⟩) n cap) L) (i : Nat) (hi : i < n) :
    W.cell? ⟨gr, i * 3, none⟩ = some (.string (hgt L i).f0.f0) ∧ W.cell? ⟨gr, i * 3 + 1, none⟩ = some (.int .i64 (hgt L i).f0.f1) ∧ W.cell? ⟨gr, i * 3 + 2, none⟩ = some (.int .i64 (hgt L i).f1) ∧ W.frozen? ⟨gr, i * 3, none⟩ = false ∧ W.frozen? ⟨gr, i * 3 + 1, none⟩ = false ∧ W.frozen? ⟨gr, i * 3 + 2, none⟩ = false := by
  obtain ⟨c, hcl, hM, hcc, hf⟩ := Kd.R_elem hR z96 i (by omega) (by omega)
  obtain rfl := k96_openM hM
  rw [Int.toNat_natCast] at hcc hf
  exact ⟨hcc 0 _ rfl, hcc 1 _ rfl, hcc 2 _ rfl, hf 0, hf 1, hf 2⟩
end
end Go.Proofs.Ytbmmlkifhhpjcaa.X
