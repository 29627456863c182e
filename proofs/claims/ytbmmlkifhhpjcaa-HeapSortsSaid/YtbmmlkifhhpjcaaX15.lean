/- Push into a heap (instance int). -/
import Derived.Test.YtbmmlkifhhpjcaaX14
namespace Go.Proofs.Ytbmmlkifhhpjcaa.X
open Go.RowKit Go.Proofs.YtbmmlkifhhpjcaaW.PrintWords Go.Proofs.YtbmmlkifhhpjcaaW.PrintLast Go.Proofs.YtbmmlkifhhpjcaaW.PrintMore
attribute [local go_sem] max2_int min2_int max_two min_two max_three min_three max_four min_four
set_option linter.unusedVariables false
set_option linter.unusedSimpArgs false

open Go.Proofs.Ytbmmlkifhhpjcaa
def hpush92.T3 : Bool × List (List Nat × List Nat) := (true, [([], []), ([], []), ([1], [1]), ([2], [2]), ([3], [3]), ([4], [4]), ([], []), ([], []), ([7], [7]), ([8], [8]), ([9], [9]), ([6, 10], [6, 10]), ([11], [11]), ([5, 12], [5, 12]), ([0, 0, 1, 2, 3, 4, 5, 6, 7, 8, 9, 10, 11, 12, 13], [0]), ([14, 0, 1, 2, 3, 4, 5, 6, 7, 8, 9, 10, 11, 12, 13], [14]), ([15, 0, 1, 2, 3, 4, 5, 6, 7, 8, 9, 10, 11, 12, 13], [15]), ([16, 13, 13, 0, 1, 2, 3, 4, 5, 6, 7, 8, 9, 10, 11, 12, 13], [13, 16])])
def hpush92.B3 : List Nat := [0, 0, 2, 6, 14, 30, 0, 0, 128, 384, 896, 1984, 4032, 8190, 16383, 32767, 65535, 131071]
theorem hpush92.tab3 : rtab .any (opsOf Try.f14 3) = hpush92.T3 := by kernel_rfl
theorem hpush92.bits3 : waitsOk hpush92.T3.2 hpush92.B3 = true := by kernel_rfl
def mk92 (x : Int) (c : Int) : S92 := ⟨x, c⟩
theorem ah92_key : ah92 = ahK (fun y : S92 => wrap64 (y.f0.tdiv 10)) (fun y => y.f1) := rfl
theorem hord92 : HOrd ah92 := ah92_key ▸ ahK_ord _ _
set_option maxHeartbeats 1000000 in
set_option maxRecDepth 1000000 in
theorem push92_calls (W : World) (g base : Nat) (row : Option Nat) (L : List S92) (came : Int) (A : Option Addr) (c : Nat) (xs : List Int) (hS : HS92 W g base row L came) (hC : ∀ W', KeepBut W W' g row → Kd.C (Kd.int .i64) W' A xs.length xs) (hc0 : 0 ≤ came) (hc1 : came + xs.length < 1099511627776) (hl : L.length + xs.length < 1099511627776) (hp : Hp ah92 L) :
    Calls Try.prog 14 #[.pointer (some ⟨g, 0, none⟩), .slice A xs.length c] W fun e w' => e = .returned (.tuple #[]) ∧ ∃ row', HS92 w' g base row' (pushL ah92 mk92 L came xs) (came + xs.length) ∧ HpTo W w' g base row row' := by
  have HS := Aside0.mk hS
  have HT := Aside0.mk (HpTo.refl W g base row)
  have HC := Aside0.mk hC
  have HL := Aside0.mk hl
  have HP := Aside0.mk hp
  have HA := Aside0.mk (show 0 ≤ came ∧ came + xs.length < 1099511627776 from ⟨hc0, hc1⟩)
  clear hS hC hl hp hc0 hc1
  go_enter Try.func14, Try.ntmps14
  go_wp2
  go_loopw [8] (fun v8 wr => ∃ (i : Nat) (M : List S92) (row1 : Option Nat), v8 = .int .i64 i ∧ i ≤ xs.length ∧ Aside0 (M.length = L.length + i) ∧ Aside0 (Hp ah92 M) ∧ Aside0 (pushL ah92 mk92 M (came + i) (xs.drop i) = pushL ah92 mk92 L came xs) ∧ Aside0 (HS92 wr g base row1 M (came + i)) ∧ Aside0 (HpTo W wr g base row row1)) (fun v8 _ => xs.length - (intOf v8).toNat)
  case atStart => exact ⟨0, L, row, rfl, by omega, ⟨by omega⟩, HP, ⟨by simp⟩, ⟨by simpa using HS.out⟩, HT⟩
  case round =>
    clear HS HT HP
    obtain ⟨i, M, row1, rfl, hi, HM, HP, HU, HS, HT⟩ := hrel
    by_cases hlt : i < xs.length
    · have hb1 : (i : Int) < (xs.length : Int) := by omega
      have hb0 : 0 ≤ (i : Int) := by omega
      obtain ⟨x, hx⟩ : ∃ x, xs.getD i 0 = x := ⟨_, rfl⟩
      obtain ⟨ad, rfl, hxc⟩ := Kd.at_int (HC.out _ HT.out.keep) (i : Int) hb0 hb1
      have hxd : wr.cell? (ad.add i) = some (.int .i64 x) := by
        rw [Int.toNat_natCast] at hxc
        exact hxc.trans (by rw [show rd xs (i : Int) = xs.getD i 0 from rfl, hx])
      have hdrop : xs.drop i = x :: xs.drop (i + 1) := by
        rw [List.drop_eq_getElem_cons hlt]
        congr 1
        rw [← hx, List.getD_eq_getElem?_getD, List.getElem?_eq_getElem hlt]
        rfl
      obtain ⟨ci, hci⟩ : ∃ ci : Int, came + i = ci := ⟨_, rfl⟩
      have hU := HU.out
      rw [hdrop, hci] at hU
      have HU2 : Aside0 (pushL ah92 mk92 (pushF ah92 M (mk92 x ci)) (ci + 1) (xs.drop (i + 1)) = pushL ah92 mk92 L came xs) := ⟨hU⟩
      rw [hci] at HS
      obtain ⟨v, hv, hb, hR, hg⟩ := HS.out
      obtain ⟨A1, cap, rfl⟩ := Kd.R_slice hR
      have c0 : wr.cell? ⟨g, 0, none⟩ = some (.slice A1 M.length cap) := (blk_cell hb 0).trans rfl
      have c2 : wr.cell? ⟨g, 2, none⟩ = some (.int .i64 ci) := (blk_cell hb 2).trans rfl
      have fz : wr.frozen? ⟨g, 0, none⟩ = false := blk_frozen hb 0
      have HV := Aside0.mk hv
      have HB := Aside0.mk hb
      have HR := Aside0.mk hR
      have HG := Aside0.mk hg
      have HSZ := Aside0.mk HS.out.lt
      clear hxc hx hdrop hU HU hv hb hR hg
      have hwi : IntKind.i64.wrap ((i : Int) + 1) = (i : Int) + 1 := by have := HL.out; rw [IntKind.wrap_i64]; omega
      go_upto_region 3 with (fail)
      have hne : some g ≠ (Value.slice A1 M.length cap).ownBlock := fun e => HR.out.1 g e.symm rfl
      have hnw : g < wr.heap.size := HSZ.out.1
      have hbs : base ≤ wr.heap.size := HS.out.size
      have hml : (M.length + 1) * 16 ≤ 140737488355328 := by have := HM.out; have := HL.out; omega
      have HNE := Aside0.mk (And.intro hne (And.intro hnw (And.intro hbs hml)))
      clear hne hnw hbs hml
      refine start_ (n := 18) (S := fun w' => w'.cell? ⟨g, 0, none⟩ = some (.slice A1 M.length cap) ∧ w'.cell? ⟨g, 2, none⟩ = some (.int .i64 ci) ∧ w'.frozen? ⟨g, 0, none⟩ = false) (ds := [17]) #[false, false, false, false, false, false, false, false, false, false, false, false, false, false, false, false, false, false] (by kernel_rfl) rfl rfl ⟨c0, c2, fz⟩ (fun hHeld => ?_)
      refine with_tabW hpush92.tab3 hpush92.bits3 (fun HT_ HW_ => ?_)
      clear c0 c2 fz
      refine pY 0 12 #[true, false, false, false, false, false, false, false, false, false, false, false, false, false, false, false, false, false] HT_.out ?_
      refine pY 1 13 #[true, true, false, false, false, false, false, false, false, false, false, false, false, false, false, false, false, false] HT_.out ?_
      refine pY 2 14 #[true, true, true, false, false, false, false, false, false, false, false, false, false, false, false, false, false, false] HT_.out ?_
      refine pY 3 15 #[true, true, true, true, false, false, false, false, false, false, false, false, false, false, false, false, false, false] HT_.out ?_
      refine pY 4 16 #[true, true, true, true, true, false, false, false, false, false, false, false, false, false, false, false, false, false] HT_.out ?_
      refine take_ (i := 5) (N := some 17) (v := ?_) (a' := ?_) #[true, true, true, true, true, true, false, false, false, false, false, false, false, false, false, false, false, false] rfl rfl (take_ofW HT_.out HW_.out (by kernel_rfl)) (fun _ _ _ h => h) (Or.inl ⟨by rfl, ?_⟩) hHeld ?_ ?_
      rotate_left
      · rintro w' ⟨s0, s1, s2⟩
        go_simp
        with_reducible rfl
      rotate_left
      · simp only [Act.put, List.setIfInBounds_toArray, List.set_cons_zero, List.set_cons_succ, i64_w, i32_w]
        rfl
      refine pY 6 18 #[true, true, true, true, true, true, true, false, false, false, false, false, false, false, false, false, false, false] HT_.out ?_
      refine pY 7 19 #[true, true, true, true, true, true, true, true, false, false, false, false, false, false, false, false, false, false] HT_.out ?_
      refine pY 8 20 #[true, true, true, true, true, true, true, true, true, false, false, false, false, false, false, false, false, false] HT_.out ?_
      refine pY 9 21 #[true, true, true, true, true, true, true, true, true, true, false, false, false, false, false, false, false, false] HT_.out ?_
      refine take_ (i := 10) (N := some 22) (v := ?_) (a' := ?_) #[true, true, true, true, true, true, true, true, true, true, true, false, false, false, false, false, false, false] rfl rfl (take_ofW HT_.out HW_.out (by kernel_rfl)) (fun _ _ _ h => h) (Or.inl ⟨by rfl, ?_⟩) hHeld ?_ ?_
      rotate_left
      · rintro w' ⟨s0, s1, s2⟩
        go_simp
        with_reducible rfl
      rotate_left
      · simp only [Act.put, List.setIfInBounds_toArray, List.set_cons_zero, List.set_cons_succ, i64_w, i32_w]
        rfl
      refine pY 11 23 #[true, true, true, true, true, true, true, true, true, true, true, true, false, false, false, false, false, false] HT_.out ?_
      refine one_ (i := 12) (N := some 24) #[true, true, true, true, true, true, true, true, true, true, true, true, true, false, false, false, false, false] rfl rfl (one_of HT_.out (by kernel_rfl)) (by decide) (fun K hK => ?_)
      refine event_step (by rfl) (w1 := wr.drew.alloc (.cells #[.int .i64 x, .int .i64 ci] 92)) (v := .slice (some ⟨wr.drew.heap.size, 0, none⟩) 1 1) (by first | (go_simp; done) | (go_simp; rfl)) ?_
      refine hK.out _ _ (keepA HB.out _) (fun hHeld => ?_)
      clear hK K
      refine norm_ (a' := ?_) ?_ ?_
      rotate_left
      · show Act.put _ (some 24) _ = _
        simp only [Act.put, List.setIfInBounds_toArray, List.set_cons_zero, List.set_cons_succ, i64_w, i32_w]
        rfl
      refine one_ (i := 13) (N := some 25) #[true, true, true, true, true, true, true, true, true, true, true, true, true, true, false, false, false, false] rfl rfl (one_of HT_.out (by kernel_rfl)) (by decide) (fun K hK => ?_)
      refine Kd.R_append_step k92 (w0 := wr) (W := wr.drew) base (by rfl) (.tmp 17) (.tmp 24) 39 92 (.agg #[.int .i64 0, .int .i64 0]) 16 (by rfl) Try.underlying39 info92 rfl (by decide) (by omega) (.slice A1 M.length cap) M (mk92 x ci) [.int .i64 x, .int .i64 ci] (fun k_ => k_ ≠ g) (fun _ => False) (by rfl) (by rfl) (k92_mkM _ _ _ (mk92 x ci)) (fun _ hk => hk.elim) (fun k_ hk_ => Nat.ne_of_gt (Nat.lt_of_lt_of_le HNE.out.2.1 hk_)) (Kd.R_drew HR.out) (below_drew (Below.refl _ _)) HNE.out.2.2.1 HNE.out.2.2.2 ?_
      intro v2 w9 ho hb hg2 hat
      obtain ⟨A2, c2, rfl⟩ := Kd.R_slice ho
      refine hK.out _ _ (keepS HB.out hg2 HNE.out.1) (fun hHeld => ?_)
      clear hK K
      refine norm_ (a' := ?_) ?_ ?_
      rotate_left
      · show Act.put _ (some 25) _ = _
        simp only [Act.put, List.setIfInBounds_toArray, List.set_cons_zero, List.set_cons_succ, i64_w, i32_w]
        rfl
      refine pY 14 26 #[true, true, true, true, true, true, true, true, true, true, true, true, true, true, true, false, false, false] HT_.out ?_
      refine pY 15 27 #[true, true, true, true, true, true, true, true, true, true, true, true, true, true, true, true, false, false] HT_.out ?_
      refine pY 16 28 #[true, true, true, true, true, true, true, true, true, true, true, true, true, true, true, true, true, false] HT_.out ?_
      refine last_ (i := 17) (N := none) #[true, true, true, true, true, true, true, true, true, true, true, true, true, true, true, true, true, true] rfl rfl (one_of HT_.out (by kernel_rfl)) (by decide) (fun K hK => ?_)
      obtain ⟨s0, s1, s2⟩ := hHeld
      refine x_store_step (by rfl) rfl (w1 := w9.setCell ⟨g, 0, none⟩ (.slice A2 (M ++ [mk92 x ci]).length c2)) (by first | (go_simp; done) | (go_simp; rfl)) ?_
      refine hK.out _ _ ?_
      clear hK K
      refine done_ (done_of HT_.out (by kernel_rfl)) ?_
      have g1 : (w9.setCell ⟨g, 0, none⟩ (.slice A2 (M ++ [mk92 x ci]).length c2)).heap[g]? = some (.cells #[.slice A2 (M ++ [mk92 x ci]).length c2, .func (.func 9) #[] #[], .int .i64 ci] 43 (0, 0)) := blk_put (blk_grown (blk_drew HB.out) hg2 HNE.out.1) 0 _ rfl
      have g2 := Kd.R_far (p := ⟨g, 0, none⟩) ho (fun _ h => h) (.slice A2 (M ++ [mk92 x ci]).length c2)
      have g3 := ((HT.out.then_below (below_drew (Below.refl _ _)) HNE.out.2.2.1).then_grown (W2 := w9) (row2 := (Value.slice A2 (M ++ [mk92 x ci]).length c2).ownBlock) HNE.out.2.2.1 (fun k hk => (HS.out.row_ k hk).1) (HV.out ▸ hg2) (HV.out ▸ hat)).then_set HG.out 0 (.slice A2 (M ++ [mk92 x ci]).length c2)
      have hrow2 : ∃ r2, (Value.slice A2 (M ++ [mk92 x ci]).length c2).ownBlock = r2 := ⟨_, rfl⟩
      obtain ⟨r2, hr2⟩ := hrow2
      rw [hr2] at g3
      have HR2 := Aside0.mk hr2
      generalize w9.setCell ⟨g, 0, none⟩ (.slice A2 (M ++ [mk92 x ci]).length c2) = w10 at g1 g2 g3 ⊢
      clear ho hb hg2 hat s0 s1 s2 HR HB HV HS HNE HSZ hxd HT
      have d2 : w10.cell? ⟨g, 2, none⟩ = some (.int .i64 ci) := (blk_cell g1 2).trans rfl
      have fz2 : w10.frozen? ⟨g, 2, none⟩ = false := blk_frozen g1 2
      have hw4 : IntKind.i64.wrap (ci + 1) = ci + 1 := by have := HA.out; rw [IntKind.wrap_i64]; omega
      have G1 := Aside0.mk (show (w10.setCell ⟨g, 2, none⟩ (.int .i64 (ci + 1))).heap[g]? = some (.cells #[.slice A2 (M ++ [mk92 x ci]).length c2, .func (.func 9) #[] #[], .int .i64 (ci + 1)] 43 (0, 0)) from blk_put g1 2 _ rfl)
      have G2 := Aside0.mk (Kd.R_far (p := ⟨g, 2, none⟩) g2 (fun _ h => h) (.int .i64 (ci + 1)))
      have G3 := Aside0.mk (g3.then_set HG.out 2 (.int .i64 (ci + 1)))
      clear g1 g2 g3 hr2
      go_upto_region 5 with (fail)
      generalize w10.setCell ⟨g, 2, none⟩ (.int .i64 (ci + 1)) = w11 at G1 G2 G3 ⊢
      clear d2 fz2 hw4
      have HS11 : Aside0 (HS92 w11 g base r2 (M ++ [mk92 x ci]) (ci + 1)) := ⟨_, HR2.out, G1.out, G2.out, HG.out⟩
      have e0 : w11.cell? ⟨g, 0, none⟩ = some (.slice A2 (M ++ [mk92 x ci]).length c2) := (blk_cell G1.out 0).trans rfl
      have hlen : (M ++ [mk92 x ci]).length = M.length + 1 := by simp
      rw [hlen] at e0
      have hw5 : IntKind.i64.wrap (((M.length + 1 : Nat) : Int) - 1) = (M.length : Int) := by have := HM.out; have := HL.out; rw [IntKind.wrap_i64]; omega
      clear G1 G2
      have hw6 : IntKind.i64.wrap (M.length : Int) = (M.length : Int) := by have := HM.out; have := HL.out; rw [IntKind.wrap_i64]; omega
      have HS12 := Aside0.mk (HS11.out.below (below_drew (Below.refl _ _)))
      have HT12 := Aside0.mk (G3.out.then_below (below_drew (Below.refl _ _)) HS11.out.size)
      have HK12 := Aside0.mk (show M.length < (M ++ [mk92 x ci]).length ∧ (M ++ [mk92 x ci]).length < 4398046511104 by have := HM.out; have := HL.out; omega)
      clear hlen
      go_region_with (go_at_call 39; (with_reducible refine (up92_calls _ g base r2 (M ++ [mk92 x ci]) (ci + 1) M.length HS12.out HK12.out.1 HK12.out.2).mono ?_); rintro e w12 ⟨rfl, hS13, hT13⟩; have HS13 := Aside0.mk hS13; have HT13 := Aside0.mk (HT12.out.trans hT13); clear hS13 hT13)
      go_wp2
      go_roundw
      case measure => simp only [intOf, Array.getD_eq_getD_getElem?]; simp; omega
      case rel =>
        refine ⟨i + 1, pushF ah92 M (mk92 x ci), r2, by go_num, by omega, ⟨?_⟩, ⟨(pushF_spec hord92 M _ HP.out).1⟩, ⟨?_⟩, ⟨?_⟩, HT13⟩
        · rw [pushF_len hord92 M _ HP.out, HM.out]; omega
        · rw [← HU2.out]; congr 1; omega
        · have := HS13.out
          rw [show came + ((i + 1 : Nat) : Int) = ci + 1 by rw [← hci]; push_cast; omega]
          exact this
    · have hie : i = xs.length := by omega
      subst hie
      have hb1 : decide ((xs.length : Int) < (xs.length : Int)) = false := decide_eq_false (by omega)
      have hU := HU.out
      rw [List.drop_length] at hU
      have HU2 : Aside0 (M = pushL ah92 mk92 L came xs) := ⟨hU⟩
      clear hU HU hlt
      go_wp2
      refine bodyPost_end (results_none rfl _ _ _) rfl ?_
      exact ⟨rfl, row1, HU2.out ▸ HS.out, HT.out⟩
end Go.Proofs.Ytbmmlkifhhpjcaa.X
