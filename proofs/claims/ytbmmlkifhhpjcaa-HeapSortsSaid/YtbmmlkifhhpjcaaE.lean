/- The chapter's examples hold. -/
import Derived.Test.YtbmmlkifhhpjcaaX17
namespace Go.Proofs.Ytbmmlkifhhpjcaa.X
open Go.RowKit Go.Proofs.YtbmmlkifhhpjcaaW.PrintWords Go.Proofs.YtbmmlkifhhpjcaaW.PrintLast Go.Proofs.YtbmmlkifhhpjcaaW.PrintMore
attribute [local go_sem] max2_int min2_int max_two min_two max_three min_three max_four min_four
set_option linter.unusedVariables false
set_option linter.unusedSimpArgs false

open Go.Proofs.Ytbmmlkifhhpjcaa
/-- the place of the first of the least -/
def leastAt (Q : List S92) (j : Nat) : Bool := decide (j < Q.length) && (List.range Q.length).all fun i => decide (wrap64 ((hgt Q j).f0.tdiv 10) ≤ wrap64 ((hgt Q i).f0.tdiv 10)) && (decide (j ≤ i) || decide (wrap64 ((hgt Q j).f0.tdiv 10) < wrap64 ((hgt Q i).f0.tdiv 10)))
theorem pop_q {L Q : List S92} (j : Nat) (h : leastAt Q j = true) (hp : Hp ah92 L) (hP : L.Perm Q) (hQ : Rise (fun y : S92 => y.f1) Q) :
    hgt L 0 = hgt Q j ∧ Hp ah92 (popF ah92 L) ∧ (popF ah92 L).Perm (Q.eraseIdx j) ∧ Rise (fun y : S92 => y.f1) (Q.eraseIdx j) ∧ (popF ah92 L).length + 1 = L.length ∧ 0 < L.length := by
  unfold leastAt at h
  rw [Bool.and_eq_true, decide_eq_true_iff, List.all_eq_true] at h
  obtain ⟨hj, h⟩ := h
  have key : ∀ i, i < Q.length → wrap64 ((hgt Q j).f0.tdiv 10) ≤ wrap64 ((hgt Q i).f0.tdiv 10) ∧ (j ≤ i ∨ wrap64 ((hgt Q j).f0.tdiv 10) < wrap64 ((hgt Q i).f0.tdiv 10)) := fun i hi => by
    have := h i (List.mem_range.2 hi)
    rw [Bool.and_eq_true, Bool.or_eq_true, decide_eq_true_iff, decide_eq_true_iff, decide_eq_true_iff] at this
    exact this
  have hl : 0 < L.length := by rw [hP.length_eq]; omega
  have := pop_queue (key := fun y : S92 => wrap64 (y.f0.tdiv 10)) (at_ := fun y => y.f1) (L := L) (Q := Q) (j := j) hp hP hQ hj
    (fun i hi => by have := (key i hi).1; rwa [hgt_eq _ _ hi, hgt_eq _ _ hj] at this)
    (fun i hi => by
      have := (key i (by omega)).2.resolve_left (by omega)
      rwa [hgt_eq _ _ (show i < Q.length by omega), hgt_eq _ _ hj] at this)
  exact ⟨by rw [this.1, hgt_eq _ _ hj], this.2.1, this.2.2, hQ.erase j, popF_len hord92 L hp hl, hl⟩
theorem ex_facts : ∃ L1 L2 L3 L4 : List S92, pushL ah92 mk92 [] 0 [25, 13, 21] = L1 ∧ pushL ah92 mk92 L1 3 [11, 5] = L2 ∧ popF ah92 L2 = L3 ∧ popF ah92 L3 = L4 ∧ L1.length = 3 ∧ L2.length = 5 ∧ L3.length = 4 ∧ L4.length = 3 ∧
    Hp ah92 L1 ∧ Hp ah92 L2 ∧ Hp ah92 L3 ∧ Hp ah92 L4 ∧ (hgt L1 0).f0 = 13 ∧ (hgt L2 0).f0 = 5 ∧ (hgt L3 0).f0 = 13 ∧ (drainF ah92 L4.length L4).map (·.f0) = [11, 25, 21] := by
  have h1 := pushL_spec mk92 hord92 [25, 13, 21] [] [] 0 Hp.nil (List.Perm.refl _)
  have r1 := (stamp_rise mk92 (fun y : S92 => y.f1) (fun _ _ => rfl) [25, 13, 21] 0).1
  have p1 := pop_q 1 (by kernel_rfl) h1.1 h1.2 r1
  have h2 := pushL_spec mk92 hord92 [11, 5] _ _ 3 h1.1 h1.2
  have r2 := (stamp_rise mk92 (fun y : S92 => y.f1) (fun _ _ => rfl) [25, 13, 21, 11, 5] 0).1
  have p2 := pop_q 4 (by kernel_rfl) h2.1 h2.2 r2
  have p3 := pop_q 1 (by kernel_rfl) p2.2.1 p2.2.2.1 p2.2.2.2.1
  have p4 := pop_q 2 (by kernel_rfl) p3.2.1 p3.2.2.1 p3.2.2.2.1
  have p5 := pop_q 0 (by kernel_rfl) p4.2.1 p4.2.2.1 p4.2.2.2.1
  have p6 := pop_q 0 (by kernel_rfl) p5.2.1 p5.2.2.1 p5.2.2.2.1
  have l1 := h1.2.length_eq
  have l2 := h2.2.length_eq
  have l3 := p2.2.2.1.length_eq
  have l4 : (popF ah92 (popF ah92 (pushL ah92 mk92 (pushL ah92 mk92 [] 0 [25, 13, 21]) 3 [11, 5]))).length = 3 := p3.2.2.1.length_eq
  refine ⟨_, _, _, _, rfl, rfl, rfl, rfl, l1, l2, l3, l4, h1.1, h2.1, p2.2.1, p3.2.1, ?_, ?_, ?_, ?_⟩
  · rw [p1.1]; rfl
  · rw [p2.1]; rfl
  · rw [p3.1]; rfl
  · rw [l4]
    rw [show drainF ah92 3 _ = [hgt _ 0, hgt _ 0, hgt _ 0] from rfl, p4.1, p5.1, p6.1]
    rfl
theorem litC (k : IntKind) (t : TypeId) (xs : List Int) (hl : xs.length ≤ 9223372036854775807) (W : World) : Kd.C (Kd.int k) (W.alloc (.cells (xs.map (Value.int k)).toArray t)) (some ⟨W.heap.size, 0, none⟩) xs.length xs := by
  refine Kd.C_of_reads (d := (0 : Int)) (h1 := fun _ => rfl) ⟨rfl, hl, fun _ => ⟨_, rfl, fun j hj => ?_⟩⟩
  have hb := blk_new W (.cells (xs.map (Value.int k)).toArray t)
  rw [add_plain, blk_cell hb j]
  simp [hj]
set_option maxHeartbeats 4000000 in
set_option maxRecDepth 1000000 in
theorem examples_calls (W : World) : Calls Try.prog 7 #[] W fun e w' => e = .returned (.bool true) ∧ Below W.heap.size W w' := by
  obtain ⟨L1, L2, L3, L4, e1, e2, e3, e4, l1, l2, l3, l4, p1, p2, p3, p4, x1, x2, x3, x4⟩ := ex_facts
  have E1 := Aside0.mk e1
  have E2 := Aside0.mk e2
  have E3 := Aside0.mk e3
  have E4 := Aside0.mk e4
  have X4 := Aside0.mk x4
  have P1 := Aside0.mk p1
  have P4 := Aside0.mk p4
  have LL := Aside0.mk (And.intro l1 (And.intro l2 (And.intro l3 l4)))
  have XX := Aside0.mk (And.intro x1 (And.intro x2 x3))
  have HB := Aside0.mk (below_alloc (Below.refl W.heap.size W) (.cells #[.int .i64 25, .int .i64 13, .int .i64 21] 3))
  have KN : Aside0 (Calls Try.prog 8 #[.func (.func 9) #[] #[], .slice (some ⟨W.heap.size, 0, none⟩) 3 3] (W.alloc (.cells #[.int .i64 25, .int .i64 13, .int .i64 21] 3)) fun e w' => e = .returned (.pointer (some ⟨W.heap.size + 1, 0, none⟩)) ∧ ∃ row', HS92 w' (W.heap.size + 1) (W.heap.size + 1) row' L1 3 ∧ Below (W.heap.size + 1) (W.alloc (.cells #[.int .i64 25, .int .i64 13, .int .i64 21] 3)) w') := ⟨by
    have := new92_calls (W.alloc (.cells #[.int .i64 25, .int .i64 13, .int .i64 21] 3)) (some ⟨W.heap.size, 0, none⟩) 3 [25, 13, 21] (litC .i64 3 [25, 13, 21] (by decide) W) (by decide)
    rw [e1, show (W.alloc (.cells #[.int .i64 25, .int .i64 13, .int .i64 21] 3)).heap.size = W.heap.size + 1 by simp] at this
    exact this⟩
  generalize hg : W.heap.size + 1 = g at KN
  have KK : Aside0 (∀ w row, HS92 w g g row L1 3 → Calls Try.prog 15 #[.pointer (some ⟨g, 0, none⟩)] w fun e w' => e = .returned (.tuple #[.int .i64 13, .bool true]) ∧ w' = w) := ⟨fun w row h => by
    have := peek92_some w g g row L1 3 h (by omega)
    rwa [x1] at this⟩
  have KU : Aside0 (∀ w row, HS92 w g g row L1 3 → Calls Try.prog 14 #[.pointer (some ⟨g, 0, none⟩), .slice (some ⟨w.heap.size, 0, none⟩) 2 2] (w.alloc (.cells #[.int .i64 11, .int .i64 5] 3)) fun e w' => e = .returned (.tuple #[]) ∧ ∃ row', HS92 w' g g row' L2 5 ∧ Below g w w') := ⟨fun w row h => by
    have hb := below_alloc (Below.refl w.heap.size w) (.cells #[.int .i64 11, .int .i64 5] 3)
    have hs := h.below hb
    have := push92_calls (w.alloc (.cells #[.int .i64 11, .int .i64 5] 3)) g g row L1 3 (some ⟨w.heap.size, 0, none⟩) 2 [11, 5] hs (C_keepB (fun h => h) (litC .i64 3 [11, 5] (by decide) w) (fun ad e _ => by
      cases e
      exact ⟨by have := h.lt; show w.heap.size ≠ g; omega, fun e => by have := (h.row_ _ e.symm).2.1; simp at this⟩)) (by decide) (by decide) (by rw [l1]; decide) p1
    rw [e2] at this
    exact this.mono fun e w' hh => ⟨hh.1, by
      obtain ⟨_, r', h1, h2⟩ := hh
      exact ⟨r', h1, (hb.mono h.size).trans h2.below⟩⟩⟩
  have KO : Aside0 (∀ w row, HS92 w g g row L2 5 → Calls Try.prog 11 #[.pointer (some ⟨g, 0, none⟩)] w fun e w' => e = .returned (.tuple #[.int .i64 5, .bool true]) ∧ HS92 w' g g row L3 5 ∧ Below g w w') := ⟨fun w row h => by
    have := pop92_some w g g row L2 5 h (by omega) (by omega)
    rw [x2, e3] at this
    exact this.mono fun e w' hh => ⟨hh.1, hh.2.1, hh.2.2.below⟩⟩
  have KP : Aside0 (∀ w row, HS92 w g g row L3 5 → Calls Try.prog 11 #[.pointer (some ⟨g, 0, none⟩)] w fun e w' => e = .returned (.tuple #[.int .i64 13, .bool true]) ∧ HS92 w' g g row L4 5 ∧ Below g w w') := ⟨fun w row h => by
    have := pop92_some w g g row L3 5 h (by omega) (by omega)
    rw [x3, e4] at this
    exact this.mono fun e w' hh => ⟨hh.1, hh.2.1, hh.2.2.below⟩⟩
  have KD : Aside0 (∀ w row, HS92 w g g row L4 5 → Calls Try.prog 13 #[.pointer (some ⟨g, 0, none⟩)] w fun e w' => ∃ ad c, e = .returned (.slice (some ad) 3 c) ∧ w'.cell? ad = some (.int .i64 11) ∧ w'.cell? ⟨ad.block, ad.off + 1, none⟩ = some (.int .i64 25) ∧ w'.cell? ⟨ad.block, ad.off + 2, none⟩ = some (.int .i64 21) ∧ HS92 w' g g row [] 5 ∧ Below g w w') := ⟨fun w row h => by
    have := drain92_calls w g g row L4 5 h p4 (by omega)
    rw [x4] at this
    refine this.mono fun e w' hh => ?_
    obtain ⟨v, he, hR, h1, h2⟩ := hh
    obtain ⟨A, c, rfl⟩ := Kd.R_slice hR
    have hC := (Kd.R_reads' hR).2.2
    obtain ⟨ad, ha, z0⟩ := Kd.at_int hC 0 (by decide) (by decide)
    obtain ⟨ad1, ha1, z1⟩ := Kd.at_int hC 1 (by decide) (by decide)
    obtain ⟨ad2, ha2, z2⟩ := Kd.at_int hC 2 (by decide) (by decide)
    subst ha
    obtain rfl : ad = ad1 := by injection ha1
    obtain rfl : ad = ad2 := by injection ha2
    have y0 : w'.cell? ad = some (.int .i64 11) := by
      have := z0
      rw [show (0 : Int).toNat = 0 from rfl, Addr.add_zero'] at this
      exact this
    exact ⟨ad, c, he, y0, z1, z2, h1, h2.below⟩⟩
  clear e1 e2 e3 e4 l1 l2 l3 l4 p1 p2 p3 p4 x1 x2 x3 x4 LL XX E1 E2 E3 E4 X4 P1 P4
  have HG := Aside0.mk hg
  clear hg
  go_enter Try.func7, Try.ntmps7
  go_upto_region 10 with (first
    | (go_at_call 8; (with_reducible refine KN.out.mono ?_); rintro e w1 ⟨rfl, r1, hS1, hB1⟩; have HS := Aside0.mk hS1; have n1_ := Aside0.mk (HB.out.trans (hB1.mono (by have := HG.out; omega))); clear HB hS1 hB1 KN; have HB := n1_; clear n1_)
    | (go_at_call 15; (with_reducible refine (KK.out _ _ HS.out).mono ?_); rintro e w2 ⟨rfl, rfl⟩)
    | (go_at_call 14; (with_reducible refine (KU.out _ _ HS.out).mono ?_); rintro e w3 ⟨rfl, r3, hS3, hB3⟩; clear HS; have HS := Aside0.mk hS3; have n1_ := Aside0.mk (HB.out.trans (hB3.mono (by have := HG.out; omega))); clear HB hS3 hB3; have HB := n1_; clear n1_)
    | (go_at_call 11; (with_reducible refine (KO.out _ _ HS.out).mono ?_); rintro e w4 ⟨rfl, hS4, hB4⟩; clear HS; have HS := Aside0.mk hS4; have n1_ := Aside0.mk (HB.out.trans (hB4.mono (by have := HG.out; omega))); clear HB hS4 hB4; have HB := n1_; clear n1_)
    | (go_at_call 11; (with_reducible refine (KP.out _ _ HS.out).mono ?_); rintro e w5 ⟨rfl, hS5, hB5⟩; clear HS; have HS := Aside0.mk hS5; have n1_ := Aside0.mk (HB.out.trans (hB5.mono (by have := HG.out; omega))); clear HB hS5 hB5; have HB := n1_; clear n1_)
    | (go_at_call 13; (with_reducible refine (KD.out _ _ HS.out).mono ?_); rintro e w6 ⟨ad, cd, rfl, z0, z1, z2, hS6, hB6⟩; clear HS; have HS := Aside0.mk hS6; have n1_ := Aside0.mk (HB.out.trans (hB6.mono (by have := HG.out; omega))); clear HB hS6 hB6; have HB := n1_; clear n1_)
    | (go_at_call 11; (with_reducible refine (pop92_none _ g g _ [] 5 HS.out rfl).mono ?_); rintro e w7 ⟨rfl, rfl⟩))
  go_wp2_with (go_at_call 17; (with_reducible refine (len92_calls _ g g _ [] 5 HS.out).mono ?_); rintro e w8 ⟨rfl, rfl⟩)
  go_ret
  exact ⟨rfl, HB.out⟩
end Go.Proofs.Ytbmmlkifhhpjcaa.X
