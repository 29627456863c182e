/- Peek, Len, Pop of a heap (instance int). -/
import Derived.Test.YtbmmlkifhhpjcaaX13
namespace Go.Proofs.Ytbmmlkifhhpjcaa.X
open Go.RowKit Go.Proofs.YtbmmlkifhhpjcaaW.PrintWords Go.Proofs.YtbmmlkifhhpjcaaW.PrintLast Go.Proofs.YtbmmlkifhhpjcaaW.PrintMore
attribute [local go_sem] max2_int min2_int max_two min_two max_three min_three max_four min_four
set_option linter.unusedVariables false
set_option linter.unusedSimpArgs false

open Go.Proofs.Ytbmmlkifhhpjcaa
set_option maxHeartbeats 1000000 in
set_option maxRecDepth 1000000 in
theorem len92_calls (W : World) (g base : Nat) (row : Option Nat) (L : List S92) (came : Int) (hS : HS92 W g base row L came) :
    Calls Try.prog 17 #[.pointer (some ⟨g, 0, none⟩)] W fun e w' => e = .returned (.int .i64 L.length) ∧ w' = W := by
  obtain ⟨v, hv, hb, hR, hg⟩ := hS
  obtain ⟨A, cap, rfl⟩ := Kd.R_slice hR
  have c0 : W.cell? ⟨g, 0, none⟩ = some (.slice A L.length cap) := (blk_cell hb 0).trans rfl
  clear hv hb hR hg
  go_enter Try.func17, Try.ntmps17
  go_wp2
  go_ret
  exact ⟨rfl, rfl⟩
set_option maxHeartbeats 1000000 in
set_option maxRecDepth 1000000 in
theorem peek92_some (W : World) (g base : Nat) (row : Option Nat) (L : List S92) (came : Int) (hS : HS92 W g base row L came) (hl : 0 < L.length) :
    Calls Try.prog 15 #[.pointer (some ⟨g, 0, none⟩)] W fun e w' => e = .returned (.tuple #[.int .i64 (hgt L 0).f0, .bool true]) ∧ w' = W := by
  obtain ⟨v, hv, hb, hR, hg⟩ := hS
  obtain ⟨gr, cap, rfl, hgr, hgl, _⟩ := Kd.R_form hR (by omega)
  obtain ⟨x0, x1, xf0, xf1⟩ := cells92 hR 0 hl
  have hl0 := hl
  have c0 : W.cell? ⟨g, 0, none⟩ = some (.slice (some ⟨gr, 0, none⟩) L.length cap) := (blk_cell hb 0).trans rfl
  rw [Nat.zero_mul] at x0 x1
  have q1 : (0 : Int) < (L.length : Int) := Int.natCast_pos.2 hl
  have q2 : ((L.length : Int) == 0) = false := beq_eq_false_iff_ne.mpr (by omega)
  generalize hgt L 0 = x at x0 x1 ⊢
  clear hv hb hR hg hgr hgl x1 xf0 xf1
  go_enter Try.func15, Try.ntmps15
  go_wp2
  refine bodyPost_ret (results_list (rs := [.tmp 2, .tmp 3]) rfl (by simp) (.tmp (.tmp .nil))) rfl ?_
  exact ⟨rfl, rfl⟩
set_option maxHeartbeats 1000000 in
set_option maxRecDepth 1000000 in
theorem peek92_none (W : World) (g base : Nat) (row : Option Nat) (L : List S92) (came : Int) (hS : HS92 W g base row L came) (hl : L.length = 0) :
    Calls Try.prog 15 #[.pointer (some ⟨g, 0, none⟩)] W fun e w' => e = .returned (.tuple #[.int .i64 0, .bool false]) ∧ w' = W := by
  obtain ⟨v, hv, hb, hR, hg⟩ := hS
  obtain ⟨A, cap, rfl⟩ := Kd.R_slice hR
  have c0 : W.cell? ⟨g, 0, none⟩ = some (.slice A 0 cap) := by have := (blk_cell hb 0).trans (rfl : _ = some (Value.slice A L.length cap)); rwa [hl] at this
  clear hv hb hR hg
  go_enter Try.func15, Try.ntmps15
  go_wp2
  refine bodyPost_ret (results_list (rs := [.tmp 2, .tmp 3]) rfl (by simp) (.tmp (.tmp .nil))) rfl ?_
  exact ⟨rfl, rfl⟩
set_option maxHeartbeats 1000000 in
set_option maxRecDepth 1000000 in
theorem pop92_none (W : World) (g base : Nat) (row : Option Nat) (L : List S92) (came : Int) (hS : HS92 W g base row L came) (hl : L.length = 0) :
    Calls Try.prog 11 #[.pointer (some ⟨g, 0, none⟩)] W fun e w' => e = .returned (.tuple #[.int .i64 0, .bool false]) ∧ w' = W := by
  go_enter Try.func11, Try.ntmps11
  go_wp2_with (go_at_call 15; (with_reducible refine (peek92_none _ g base row L came hS hl).mono ?_); rintro e w1 ⟨rfl, rfl⟩)
  refine bodyPost_ret (results_list (rs := [.tmp 2, .tmp 3]) rfl (by simp) (.tmp (.tmp .nil))) rfl ?_
  exact ⟨rfl, rfl⟩
set_option maxHeartbeats 1000000 in
set_option maxRecDepth 1000000 in
theorem pop92_some (W : World) (g base : Nat) (row : Option Nat) (L : List S92) (came : Int) (hS : HS92 W g base row L came) (hl : 0 < L.length) (hm : L.length < 1099511627776) :
    Calls Try.prog 11 #[.pointer (some ⟨g, 0, none⟩)] W fun e w' => e = .returned (.tuple #[.int .i64 (hgt L 0).f0, .bool true]) ∧ HS92 w' g base row (popF ah92 L) came ∧ HpTo W w' g base row row := by
  have HS := Aside0.mk hS
  obtain ⟨v, hv, hb, hR, hg⟩ := hS
  obtain ⟨gr, cap, rfl, hgr, hgl, _⟩ := Kd.R_form hR (by omega)
  obtain ⟨e, he⟩ : ∃ e, L.length - 1 = e := ⟨_, rfl⟩
  have hel : e < L.length := by omega
  obtain ⟨x0, x1, xf0, xf1⟩ := cells92 hR 0 hl
  obtain ⟨y0, y1, yf0, yf1⟩ := cells92 hR e hel
  rw [Nat.zero_mul] at x0 x1 xf0 xf1
  rw [Nat.zero_add] at x1 xf1
  have c0 : W.cell? ⟨g, 0, none⟩ = some (.slice (some ⟨gr, 0, none⟩) L.length cap) := (blk_cell hb 0).trans rfl
  have hw : IntKind.i64.wrap ((L.length : Int) - 1) = (e : Int) := by rw [IntKind.wrap_i64]; omega
  have HR := Aside0.mk hR
  have HB := Aside0.mk hb
  have HG := Aside0.mk hg
  have HV := Aside0.mk hv
  have HP := Aside0.mk (put92 hR 0 hl (hgt L e))
  have HQ : Aside0 (popF ah92 L = downF ah92 ((L.set 0 (hgt L e)).take e) 0) := ⟨by unfold popF; rw [he]⟩
  obtain ⟨y, hy⟩ : ∃ y, hgt L e = y := ⟨_, rfl⟩
  rw [hy] at y0 y1 HP HQ
  have q1 : (0 : Int) < (L.length : Int) := Int.natCast_pos.2 hl
  have q2 : (e : Int) < (L.length : Int) := by omega
  have q3 : 0 ≤ (e : Int) := by omega
  clear hy hR hb hg hv hgr hgl
  go_enter Try.func11, Try.ntmps11
  go_upto_region 5 with (go_at_call 15; (with_reducible refine (peek92_some _ g base row L came HS.out hl).mono ?_); rintro e w1 ⟨rfl, rfl⟩)
  go_region
  have g1 : (((w1.setCell ⟨gr, 0, none⟩ (.int .i64 y.f0)).setCell ⟨gr, 1, none⟩ (.int .i64 y.f1)).drew).heap[g]? = some (.cells #[.slice (some ⟨gr, 0, none⟩) L.length cap, .func (.func 9) #[] #[], .int .i64 came] 43 (0, 0)) :=
    blk_drew (blk_grown HB.out HP.out.2 (fun e => HR.out.1 gr rfl (Option.some.inj e).symm))
  have g2 : k92.R 92 (((w1.setCell ⟨gr, 0, none⟩ (.int .i64 y.f0)).setCell ⟨gr, 1, none⟩ (.int .i64 y.f1)).drew) base (fun k => k ≠ g) (.slice (some ⟨gr, 0, none⟩) L.length cap) (L.set 0 y) := Kd.R_drew HP.out.1
  have g3 : HpTo w1 (((w1.setCell ⟨gr, 0, none⟩ (.int .i64 y.f0)).setCell ⟨gr, 1, none⟩ (.int .i64 y.f1)).drew) g base row row :=
    ((HpTo.refl w1 g base row).then_grown HS.out.size (fun k hk => (HS.out.row_ k hk).1) (HV.out ▸ HP.out.2) (.inl rfl)).then_below (below_drew (Below.refl _ _)) (Nat.le_trans HS.out.size HP.out.2.size)
  have hcap : e ≤ cap := by have := (Kd.R_reads' g2).2.1; omega
  have hcap2 : (e : Int) ≤ (cap : Int) := by omega
  generalize (((w1.setCell ⟨gr, 0, none⟩ (.int .i64 y.f0)).setCell ⟨gr, 1, none⟩ (.int .i64 y.f1)).drew) = w2 at g1 g2 g3 ⊢
  have g4 : (w2.setCell ⟨g, 0, none⟩ (.slice (some ⟨gr, 0, none⟩) e cap)).heap[g]? = some (.cells #[.slice (some ⟨gr, 0, none⟩) e cap, .func (.func 9) #[] #[], .int .i64 came] 43 (0, 0)) := blk_put g1 0 _ rfl
  have G5 := Aside0.mk (Kd.R_far (p := ⟨g, 0, none⟩) (Kd.R_take g2 (m := e) (by rw [List.length_set]; omega)) (fun _ h => h) (.slice (some ⟨gr, 0, none⟩) e cap))
  have G6 := Aside0.mk (g3.then_set HG.out 0 (.slice (some ⟨gr, 0, none⟩) e cap))
  have c9 : w2.cell? ⟨g, 0, none⟩ = some (.slice (some ⟨gr, 0, none⟩) L.length cap) := (blk_cell g1 0).trans rfl
  have fz : w2.frozen? ⟨g, 0, none⟩ = false := blk_frozen g1 0
  have G4 := Aside0.mk g4
  have HSn : Aside0 (HS92 (w2.setCell ⟨g, 0, none⟩ (.slice (some ⟨gr, 0, none⟩) e cap)) g base row ((L.set 0 y).take e) came) := ⟨.slice (some ⟨gr, 0, none⟩) e cap, HV.out, G4.out, G5.out, HG.out⟩
  have HL := Aside0.mk (show ((L.set 0 y).take e).length < 1099511627776 by rw [List.length_take, List.length_set]; omega)
  have HD := Aside0.mk (down92_calls _ g base row _ came 0 HSn.out (by omega) HL.out)
  rw [show ((0 : Nat) : Int) = 0 from rfl] at HD
  clear g1 g2 g3 g4 G4 G5 HP HR HB HS c0 x0 x1 y0 y1 xf0 xf1 yf0 yf1
  go_wp2_with (go_at_call 37; (with_reducible refine HD.out.mono ?_); rintro e w3 ⟨rfl, hS3, hT3⟩; have HS3 := Aside0.mk hS3; have HT3 := Aside0.mk hT3; clear hS3 hT3)
  refine bodyPost_ret (results_list (rs := [.tmp 2, .tmp 3]) rfl (by simp) (.tmp (.tmp .nil))) rfl ?_
  exact ⟨rfl, by rw [HQ.out]; exact HS3.out, G6.out.trans HT3.out⟩
end Go.Proofs.Ytbmmlkifhhpjcaa.X
