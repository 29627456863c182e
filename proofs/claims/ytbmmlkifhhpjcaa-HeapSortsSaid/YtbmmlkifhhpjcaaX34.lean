/- Peek, Len, Pop of a heap of texts, each with its number. -/
import Derived.Test.YtbmmlkifhhpjcaaX33
namespace Go.Proofs.Ytbmmlkifhhpjcaa.X
open Go.RowKit Go.Proofs.YtbmmlkifhhpjcaaW.PrintWords Go.Proofs.YtbmmlkifhhpjcaaW.PrintLast Go.Proofs.YtbmmlkifhhpjcaaW.PrintMore
attribute [local go_sem] max2_int min2_int max_two min_two max_three min_three max_four min_four
set_option linter.unusedVariables false
set_option linter.unusedSimpArgs false

open Go.Proofs.Ytbmmlkifhhpjcaa
theorem HpS.aside {W : World} {g base gb : Nat} {row : Option Nat} {L : List S96} {came : Int} (h : HS96 W g base row L came) (h1 : g ≠ gb) (h2 : ∀ b, row = some b → b ≠ gb) (j : Nat) (u : Value) : HS96 (W.setCell ⟨gb, j, none⟩ u) g base row L came :=
  h.keep (kd := k96) rfl ((KeepBut.refl W gb none).set_ j u) h1 (by simp) (fun b hb => ⟨h2 b hb, by simp⟩)
set_option maxHeartbeats 1000000 in
set_option maxRecDepth 1000000 in
theorem len96_calls (W : World) (g base : Nat) (row : Option Nat) (L : List S96) (came : Int) (hS : HS96 W g base row L came) :
    Calls Try.prog 22 #[.pointer (some ⟨g, 0, none⟩)] W fun e w' => e = .returned (.int .i64 L.length) ∧ w' = W := by
  obtain ⟨v, hv, hb, hR, hg⟩ := hS
  obtain ⟨A, cap, rfl⟩ := Kd.R_slice hR
  have c0 : W.cell? ⟨g, 0, none⟩ = some (.slice A L.length cap) := (blk_cell hb 0).trans rfl
  clear hv hb hR hg
  go_enter Try.func22, Try.ntmps22
  go_wp2
  go_ret
  exact ⟨rfl, rfl⟩
set_option maxHeartbeats 1000000 in
set_option maxRecDepth 1000000 in
theorem peek96_some (W : World) (g base : Nat) (row : Option Nat) (L : List S96) (came : Int) (hS : HS96 W g base row L came) (hl : 0 < L.length) :
    Calls Try.prog 41 #[.pointer (some ⟨g, 0, none⟩)] W fun e w' => e = .returned (.tuple #[.agg #[.string (hgt L 0).f0.f0, .int .i64 (hgt L 0).f0.f1], .bool true]) ∧ Below W.heap.size W w' := by
  have HB := Aside0.mk (below_alloc (Below.refl W.heap.size W) (.cells #[.string ⟨#[]⟩, .int .i64 0] 48))
  have HS := Aside0.mk (hS.below HB.out)
  have HK := Aside0.mk (blk_new W (.cells #[.string ⟨#[]⟩, .int .i64 0] 48))
  have HL := Aside0.mk hl
  clear hS hl
  go_enter Try.func41, Try.ntmps41
  go_upto_region 1 with (fail)
  generalize hgb : W.heap.size = gb at HK ⊢
  generalize W.alloc (.cells #[.string ⟨#[]⟩, .int .i64 0] 48) = w1 at HB HS HK ⊢
  have HGB := Aside0.mk hgb
  clear hgb
  have k0 : w1.cell? ⟨gb, 0, none⟩ = some (.string ⟨#[]⟩) := (blk_cell HK.out 0).trans rfl
  have k1 : w1.cell? ⟨gb, 1, none⟩ = some (.int .i64 0) := (blk_cell HK.out 1).trans rfl
  have kf0 : w1.frozen? ⟨gb, 0, none⟩ = false := blk_frozen HK.out 0
  have kf1 : w1.frozen? ⟨gb, 1, none⟩ = false := blk_frozen HK.out 1
  obtain ⟨v, hv, hb, hR, hg⟩ := HS.out
  obtain ⟨gr, cap, rfl, hgr, hgl, _⟩ := Kd.R_form hR HL.out
  obtain ⟨x0, x1, x2, xf0, xf1, xf2⟩ := cells96 hR 0 HL.out
  have c0 : w1.cell? ⟨g, 0, none⟩ = some (.slice (some ⟨gr, 0, none⟩) L.length cap) := (blk_cell hb 0).trans rfl
  rw [Nat.zero_mul] at x0 x1
  rw [Nat.zero_add] at x1
  have q1 : (0 : Int) < (L.length : Int) := Int.natCast_pos.2 HL.out
  have q2 : ((L.length : Int) == 0) = false := beq_eq_false_iff_ne.mpr (by omega)
  clear hv hb hR hg hgr hgl x2 xf0 xf1 xf2
  go_wp2
  refine bodyPost_ret (results_list (rs := [.cell 2 48, .tmp 3]) rfl (by simp) (.cell gb 48 #[.string (hgt L 0).f0.f0, .int .i64 (hgt L 0).f0.f1] (0, 0) _ rfl (blk_put (blk_put HK.out 0 _ rfl) 1 _ rfl) Try.underlying48 rfl (by kernel_rfl) (.tmp .nil))) rfl ?_
  exact ⟨rfl, (HB.out.setCell (p := ⟨gb, 0, none⟩) (Nat.le_of_eq HGB.out) _).setCell (p := ⟨gb, 1, none⟩) (Nat.le_of_eq HGB.out) _⟩
set_option maxHeartbeats 1000000 in
set_option maxRecDepth 1000000 in
theorem peek96_none (W : World) (g base : Nat) (row : Option Nat) (L : List S96) (came : Int) (hS : HS96 W g base row L came) (hl : L.length = 0) :
    Calls Try.prog 41 #[.pointer (some ⟨g, 0, none⟩)] W fun e w' => e = .returned (.tuple #[.agg #[.string ⟨#[]⟩, .int .i64 0], .bool false]) ∧ Below W.heap.size W w' := by
  have HB := Aside0.mk (below_alloc (Below.refl W.heap.size W) (.cells #[.string ⟨#[]⟩, .int .i64 0] 48))
  have HS := Aside0.mk (hS.below HB.out)
  have HK := Aside0.mk (blk_new W (.cells #[.string ⟨#[]⟩, .int .i64 0] 48))
  have HL := Aside0.mk hl
  clear hS hl
  go_enter Try.func41, Try.ntmps41
  go_upto_region 1 with (fail)
  generalize hgb : W.heap.size = gb at HK ⊢
  generalize W.alloc (.cells #[.string ⟨#[]⟩, .int .i64 0] 48) = w1 at HB HS HK ⊢
  have HGB := Aside0.mk hgb
  clear hgb
  have k0 : w1.cell? ⟨gb, 0, none⟩ = some (.string ⟨#[]⟩) := (blk_cell HK.out 0).trans rfl
  have k1 : w1.cell? ⟨gb, 1, none⟩ = some (.int .i64 0) := (blk_cell HK.out 1).trans rfl
  have kf0 : w1.frozen? ⟨gb, 0, none⟩ = false := blk_frozen HK.out 0
  have kf1 : w1.frozen? ⟨gb, 1, none⟩ = false := blk_frozen HK.out 1
  obtain ⟨v, hv, hb, hR, hg⟩ := HS.out
  obtain ⟨A, cap, rfl⟩ := Kd.R_slice hR
  have c0 : w1.cell? ⟨g, 0, none⟩ = some (.slice A 0 cap) := by have := (blk_cell hb 0).trans (rfl : _ = some (Value.slice A L.length cap)); rwa [HL.out] at this
  clear hv hb hR hg
  go_wp2
  refine bodyPost_ret (results_list (rs := [.cell 2 48, .tmp 3]) rfl (by simp) (.cell gb 48 #[.string ⟨#[]⟩, .int .i64 0] (0, 0) _ rfl (blk_put (blk_put HK.out 0 _ rfl) 1 _ rfl) Try.underlying48 rfl (by kernel_rfl) (.tmp .nil))) rfl ?_
  exact ⟨rfl, (HB.out.setCell (p := ⟨gb, 0, none⟩) (Nat.le_of_eq HGB.out) _).setCell (p := ⟨gb, 1, none⟩) (Nat.le_of_eq HGB.out) _⟩
set_option maxHeartbeats 1000000 in
set_option maxRecDepth 1000000 in
theorem pop96_none (W : World) (g base : Nat) (row : Option Nat) (L : List S96) (came : Int) (hS : HS96 W g base row L came) (hl : L.length = 0) :
    Calls Try.prog 23 #[.pointer (some ⟨g, 0, none⟩)] W fun e w' => e = .returned (.tuple #[.agg #[.string ⟨#[]⟩, .int .i64 0], .bool false]) ∧ Below W.heap.size W w' := by
  have HB := Aside0.mk (below_alloc (Below.refl W.heap.size W) (.cells #[.string ⟨#[]⟩, .int .i64 0] 48))
  have HS := Aside0.mk (hS.below HB.out)
  have HK := Aside0.mk (blk_new W (.cells #[.string ⟨#[]⟩, .int .i64 0] 48))
  have HL := Aside0.mk hl
  clear hS hl
  go_enter Try.func23, Try.ntmps23
  go_upto_region 1 with (fail)
  generalize hgb : W.heap.size = gb at HK ⊢
  generalize W.alloc (.cells #[.string ⟨#[]⟩, .int .i64 0] 48) = w1 at HB HS HK ⊢
  have HGB := Aside0.mk hgb
  clear hgb
  go_wp2_with (go_at_call 41; (with_reducible refine (peek96_none _ g base row L came HS.out HL.out).mono ?_); rintro e w2 ⟨rfl, hb2⟩; have n1_ := Aside0.mk (below_step HB.out hb2); have n2_ := Aside0.mk (blk_below HK.out hb2); clear HB HK hb2; have HB := n1_; have HK := n2_; clear n1_ n2_; have k0 : w2.cell? ⟨gb, 0, none⟩ = some (.string ⟨#[]⟩) := (blk_cell HK.out 0).trans rfl; have k1 : w2.cell? ⟨gb, 1, none⟩ = some (.int .i64 0) := (blk_cell HK.out 1).trans rfl; have kf0 : w2.frozen? ⟨gb, 0, none⟩ = false := blk_frozen HK.out 0; have kf1 : w2.frozen? ⟨gb, 1, none⟩ = false := blk_frozen HK.out 1)
  refine bodyPost_ret (results_list (rs := [.cell 2 48, .tmp 3]) rfl (by simp) (.cell gb 48 #[.string ⟨#[]⟩, .int .i64 0] (0, 0) _ rfl (blk_put (blk_put (blk_put (blk_put HK.out 0 _ rfl) 1 _ rfl) 0 _ rfl) 1 _ rfl) Try.underlying48 rfl (by kernel_rfl) (.tmp .nil))) rfl ?_
  exact ⟨rfl, (((HB.out.setCell (p := ⟨gb, 0, none⟩) (Nat.le_of_eq HGB.out) _).setCell (p := ⟨gb, 1, none⟩) (Nat.le_of_eq HGB.out) _).setCell (p := ⟨gb, 0, none⟩) (Nat.le_of_eq HGB.out) _).setCell (p := ⟨gb, 1, none⟩) (Nat.le_of_eq HGB.out) _⟩
set_option maxHeartbeats 1000000 in
set_option maxRecDepth 1000000 in
theorem pop96_some (W : World) (g base : Nat) (row : Option Nat) (L : List S96) (came : Int) (hS : HS96 W g base row L came) (hl : 0 < L.length) (hm : L.length < 1099511627776) :
    Calls Try.prog 23 #[.pointer (some ⟨g, 0, none⟩)] W fun e w' => e = .returned (.tuple #[.agg #[.string (hgt L 0).f0.f0, .int .i64 (hgt L 0).f0.f1], .bool true]) ∧ HS96 w' g base row (popF ah96 L) came ∧ HpTo W w' g base row row := by
  have HB := Aside0.mk (below_alloc (Below.refl W.heap.size W) (.cells #[.string ⟨#[]⟩, .int .i64 0] 48))
  have HBS := Aside0.mk hS.size
  have HNE := Aside0.mk (And.intro hS.lt hS.row_)
  have HS := Aside0.mk (hS.below HB.out)
  have HK := Aside0.mk (blk_new W (.cells #[.string ⟨#[]⟩, .int .i64 0] 48))
  clear hS
  go_enter Try.func23, Try.ntmps23
  go_upto_region 1 with (fail)
  generalize hgb : W.heap.size = gb at HK ⊢
  generalize W.alloc (.cells #[.string ⟨#[]⟩, .int .i64 0] 48) = w1 at HB HS HK ⊢
  have HGB := Aside0.mk hgb
  clear hgb
  go_upto_region 4 with (go_at_call 41; (with_reducible refine (peek96_some _ g base row L came HS.out hl).mono ?_); rintro e w2 ⟨rfl, hb2⟩; have n1_ := Aside0.mk (below_step HB.out hb2); have n2_ := Aside0.mk (blk_below HK.out hb2); have n3_ := Aside0.mk (HS.out.below hb2); clear HB HK HS hb2; have HB := n1_; have HK := n2_; have HS := n3_; clear n1_ n2_ n3_; have k0 : w2.cell? ⟨gb, 0, none⟩ = some (.string ⟨#[]⟩) := (blk_cell HK.out 0).trans rfl; have k1 : w2.cell? ⟨gb, 1, none⟩ = some (.int .i64 0) := (blk_cell HK.out 1).trans rfl; have kf0 : w2.frozen? ⟨gb, 0, none⟩ = false := blk_frozen HK.out 0; have kf1 : w2.frozen? ⟨gb, 1, none⟩ = false := blk_frozen HK.out 1)
  have hng : g ≠ gb ∧ ∀ b, row = some b → b ≠ gb := ⟨by have := HNE.out.1.1; have := HGB.out; omega, fun b hb => by have := (HNE.out.2 b hb).2.1; have := HGB.out; omega⟩
  have n1_ := Aside0.mk ((HS.out.aside hng.1 hng.2 0 (.string (hgt L 0).f0.f0)).aside hng.1 hng.2 1 (.int .i64 (hgt L 0).f0.f1))
  have n2_ := Aside0.mk ((HB.out.setCell (p := ⟨gb, 0, none⟩) (Nat.le_of_eq HGB.out) (.string (hgt L 0).f0.f0)).setCell (p := ⟨gb, 1, none⟩) (Nat.le_of_eq HGB.out) (.int .i64 (hgt L 0).f0.f1))
  have n3_ := Aside0.mk (show ((w2.setCell ⟨gb, 0, none⟩ (.string (hgt L 0).f0.f0)).setCell ⟨gb, 1, none⟩ (.int .i64 (hgt L 0).f0.f1)).heap[gb]? = some (.cells #[.string (hgt L 0).f0.f0, .int .i64 (hgt L 0).f0.f1] 48 (0, 0)) from blk_put (blk_put HK.out 0 _ rfl) 1 _ rfl)
  have HNR := Aside0.mk (show gb ≠ g ∧ some gb ≠ row from ⟨Ne.symm hng.1, fun e => hng.2 gb e.symm rfl⟩)
  clear HS HB HK k0 k1 kf0 kf1
  have HS := n1_
  have HB := n2_
  have HK := n3_
  clear n1_ n2_ n3_
  generalize (w2.setCell ⟨gb, 0, none⟩ (.string (hgt L 0).f0.f0)).setCell ⟨gb, 1, none⟩ (.int .i64 (hgt L 0).f0.f1) = w2 at HS HB HK ⊢
  obtain ⟨v, hv, hb, hR, hg⟩ := HS.out
  obtain ⟨gr, cap, rfl, hgr, hgl, _⟩ := Kd.R_form hR (by omega)
  obtain ⟨e, he⟩ : ∃ e, L.length - 1 = e := ⟨_, rfl⟩
  have hel : e < L.length := by omega
  obtain ⟨x0, x1, x2, xf0, xf1, xf2⟩ := cells96 hR 0 hl
  obtain ⟨y0, y1, y2, yf0, yf1, yf2⟩ := cells96 hR e hel
  rw [Nat.zero_mul] at x0 x1 x2 xf0 xf1 xf2
  rw [Nat.zero_add] at x1 xf1 x2 xf2
  have c0 : w2.cell? ⟨g, 0, none⟩ = some (.slice (some ⟨gr, 0, none⟩) L.length cap) := (blk_cell hb 0).trans rfl
  have HNG : Aside0 (gb ≠ g ∧ some gb ≠ some gr) := ⟨by have := HNE.out.1.1; have := HGB.out; omega, fun e => by have := (HNE.out.2 gr (by rw [← hv]; rfl)).2.1; have := HGB.out; injection e; omega⟩
  have hw : IntKind.i64.wrap ((L.length : Int) - 1) = (e : Int) := by rw [IntKind.wrap_i64]; omega
  have HR := Aside0.mk hR
  have HB := Aside0.mk hb
  have HG := Aside0.mk hg
  have HV := Aside0.mk hv
  have HP := Aside0.mk (put96 hR 0 hl (hgt L e))
  have HQ : Aside0 (popF ah96 L = downF ah96 ((L.set 0 (hgt L e)).take e) 0) := ⟨by unfold popF; rw [he]⟩
  obtain ⟨y, hy⟩ : ∃ y, hgt L e = y := ⟨_, rfl⟩
  rw [hy] at y0 y1 y2 HP HQ
  have q1 : (0 : Int) < (L.length : Int) := Int.natCast_pos.2 hl
  have q2 : (e : Int) < (L.length : Int) := by omega
  have q3 : 0 ≤ (e : Int) := by omega
  clear hy hR hb hg hv hgr hgl
  go_upto_region 5 with (fail)
  go_region
  have g1 : ((((w2.setCell ⟨gr, 0, none⟩ (.string y.f0.f0)).setCell ⟨gr, 1, none⟩ (.int .i64 y.f0.f1)).setCell ⟨gr, 2, none⟩ (.int .i64 y.f1)).drew).heap[g]? = some (.cells #[.slice (some ⟨gr, 0, none⟩) L.length cap, .func (.func 19) #[] #[], .int .i64 came] 58 (0, 0)) :=
    blk_drew (blk_grown HB.out HP.out.2 (fun e => HR.out.1 gr rfl (Option.some.inj e).symm))
  have g2 : k96.R 96 ((((w2.setCell ⟨gr, 0, none⟩ (.string y.f0.f0)).setCell ⟨gr, 1, none⟩ (.int .i64 y.f0.f1)).setCell ⟨gr, 2, none⟩ (.int .i64 y.f1)).drew) base (fun k => k ≠ g) (.slice (some ⟨gr, 0, none⟩) L.length cap) (L.set 0 y) := Kd.R_drew HP.out.1
  have g3 : HpTo w2 ((((w2.setCell ⟨gr, 0, none⟩ (.string y.f0.f0)).setCell ⟨gr, 1, none⟩ (.int .i64 y.f0.f1)).setCell ⟨gr, 2, none⟩ (.int .i64 y.f1)).drew) g base row row :=
    ((HpTo.refl w2 g base row).then_grown HS.out.size (fun k hk => (HS.out.row_ k hk).1) (HV.out ▸ HP.out.2) (.inl rfl)).then_below (below_drew (Below.refl _ _)) (Nat.le_trans HS.out.size HP.out.2.size)
  have HK3 : Aside0 ((((w2.setCell ⟨gr, 0, none⟩ (.string y.f0.f0)).setCell ⟨gr, 1, none⟩ (.int .i64 y.f0.f1)).setCell ⟨gr, 2, none⟩ (.int .i64 y.f1)).drew.heap[gb]? = some (.cells #[.string (hgt L 0).f0.f0, .int .i64 (hgt L 0).f0.f1] 48 (0, 0))) := ⟨blk_drew (blk_grown HK.out HP.out.2 HNG.out.2)⟩
  have hcap : e ≤ cap := by have := (Kd.R_reads' g2).2.1; omega
  have hcap2 : (e : Int) ≤ (cap : Int) := by omega
  generalize ((((w2.setCell ⟨gr, 0, none⟩ (.string y.f0.f0)).setCell ⟨gr, 1, none⟩ (.int .i64 y.f0.f1)).setCell ⟨gr, 2, none⟩ (.int .i64 y.f1)).drew) = w3 at g1 g2 g3 HK3 ⊢
  have g4 : (w3.setCell ⟨g, 0, none⟩ (.slice (some ⟨gr, 0, none⟩) e cap)).heap[g]? = some (.cells #[.slice (some ⟨gr, 0, none⟩) e cap, .func (.func 19) #[] #[], .int .i64 came] 58 (0, 0)) := blk_put g1 0 _ rfl
  have G5 := Aside0.mk (Kd.R_far (p := ⟨g, 0, none⟩) (Kd.R_take g2 (m := e) (by rw [List.length_set]; omega)) (fun _ h => h) (.slice (some ⟨gr, 0, none⟩) e cap))
  have G6 := Aside0.mk (g3.then_set HG.out 0 (.slice (some ⟨gr, 0, none⟩) e cap))
  have c9 : w3.cell? ⟨g, 0, none⟩ = some (.slice (some ⟨gr, 0, none⟩) L.length cap) := (blk_cell g1 0).trans rfl
  have fz : w3.frozen? ⟨g, 0, none⟩ = false := blk_frozen g1 0
  have G4 := Aside0.mk g4
  have HSn : Aside0 (HS96 (w3.setCell ⟨g, 0, none⟩ (.slice (some ⟨gr, 0, none⟩) e cap)) g base row ((L.set 0 y).take e) came) := ⟨.slice (some ⟨gr, 0, none⟩) e cap, HV.out, G4.out, G5.out, HG.out⟩
  have HL := Aside0.mk (show ((L.set 0 y).take e).length < 1099511627776 by rw [List.length_take, List.length_set]; omega)
  have HD := Aside0.mk (down96_calls _ g base row _ came 0 HSn.out (by omega) HL.out)
  rw [show ((0 : Nat) : Int) = 0 from rfl] at HD
  clear g1 g2 g3 g4 G4 G5 HP HR HB HS c0 x0 x1 x2 y0 y1 y2 xf0 xf1 xf2 yf0 yf1 yf2
  go_wp2_with (go_at_call 42; (with_reducible refine HD.out.mono ?_); rintro e w4 ⟨rfl, hS3, hT3⟩; have HS3 := Aside0.mk hS3; have HT3 := Aside0.mk hT3; have HK4 := Aside0.mk (hT3.keep.blk (blk_far HK3.out (p := ⟨g, 0, none⟩) HNR.out.1 (.slice (some ⟨gr, 0, none⟩) e cap)) HNR.out.1 HNR.out.2); clear hS3 hT3; have k0 : w4.cell? ⟨gb, 0, none⟩ = some (.string (hgt L 0).f0.f0) := (blk_cell HK4.out 0).trans rfl; have k1 : w4.cell? ⟨gb, 1, none⟩ = some (.int .i64 (hgt L 0).f0.f1) := (blk_cell HK4.out 1).trans rfl; have kf0 : w4.frozen? ⟨gb, 0, none⟩ = false := blk_frozen HK4.out 0; have kf1 : w4.frozen? ⟨gb, 1, none⟩ = false := blk_frozen HK4.out 1)
  have hgbW : W.heap.size ≤ gb := Nat.le_of_eq HGB.out
  have hT4 := (((HpTo.refl W g base row).then_above HB.out HBS.out).trans G6.out).trans HT3.out
  refine bodyPost_ret (results_list (rs := [.cell 2 48, .tmp 3]) rfl (by simp) (.cell gb 48 #[.string (hgt L 0).f0.f0, .int .i64 (hgt L 0).f0.f1] (0, 0) _ rfl (blk_put (blk_put HK4.out 0 _ rfl) 1 _ rfl) Try.underlying48 rfl (by kernel_rfl) (.tmp .nil))) rfl ?_
  refine ⟨rfl, ?_, ?_⟩
  · rw [HQ.out]
    exact (HS3.out.aside (Ne.symm HNR.out.1) (fun b hb e => HNR.out.2 (by rw [hb, e])) 0 _).aside (Ne.symm HNR.out.1) (fun b hb e => HNR.out.2 (by rw [hb, e])) 1 _
  · have hx := fun (w5 : World) (h5 : HpTo W w5 g base row row) (j : Nat) (u : Value) => (⟨h5.grow, h5.below.setCell (p := ⟨gb, j, none⟩) (Nat.le_trans HBS.out hgbW) u, ⟨by have := h5.keep.1; simpa [World.setCell] using this, fun k hk h1 h2 => (Below.heap_setCell w5 ⟨gb, j, none⟩ u k (by show k ≠ gb; omega)).trans (h5.keep.2 k hk h1 h2)⟩⟩ : HpTo W (w5.setCell ⟨gb, j, none⟩ u) g base row row)
    exact hx _ (hx _ hT4 0 _) 1 _
end Go.Proofs.Ytbmmlkifhhpjcaa.X
