-- Laid by xprint.py, a program of this session's, out of the translation.
import Derived.Test.YtjmbddgbojcpmaaDoorX0
import Derived.Test.YtjmbddgbojcpmaaDoorX1
import Derived.Test.YtjmbddgbojcpmaaDoorX11
import Derived.Test.YtjmbddgbojcpmaaDoorX12
import Derived.Test.YtjmbddgbojcpmaaDoorX16
namespace Go.Proofs.YtjmbddgbojcpmaaDoor.X
open Go.RowKit Go.Proofs.YtjmbddgbojcpmaaDoorW.PrintWords Go.Proofs.YtjmbddgbojcpmaaDoorW.PrintLast Go.Proofs.YtjmbddgbojcpmaaDoorW.PrintMore
attribute [local go_sem] max2_int min2_int max_two min_two max_three min_three max_four min_four x_isSome x_str_gtr x_str_leq x_str_geq   -- for this text's walks alone
set_option linter.unusedVariables false
set_option linter.unusedSimpArgs false

/-! ### archivistlaw13_items: function 15 -/
def archivistlaw13_items.l0 : Nat → List (S29) → Int → List (S25) → Int → Option ((List (S25)))
 | 0, _, _, _, _ => none
 | k + 1, x0, x1, x5, x6 => if x6 < (x0.length : Int) then (if x6 < x1 then (if 0 ≤ x6 then ((archivistlaw13_Item_item.f k ((rd_T29 x0 x6).f0.f0) ((rd_T29 x0 x6).f0.f1) ((rd_T29 x0 x6).f0.f2) ((rd_T29 x0 x6).f1) ((rd_T29 x0 x6).f2) ((rd_T29 x0 x6).f3) ((rd_T29 x0 x6).f4)).bind fun bt380 => (if x5.length < 2932031007402 then (archivistlaw13_items.l0 k x0 x1 (x5 ++ [(⟨bt380.1, bt380.2.1, bt380.2.2⟩ : S25)]) (wrap64 (x6 + 1))) else (none))) else (none)) else (some x5)) else (some x5)
def archivistlaw13_items.f (k : Nat) (l0 : List (S29)) (a1 : Int) : Option ((List (S25))) := archivistlaw13_items.l0 k l0 a1 ([] : List (S25)) 0
theorem archivistlaw13_items.mono_l : ∀ k, (∀ y0 y1 y2 y3, LeO (archivistlaw13_items.l0 k y0 y1 y2 y3) (archivistlaw13_items.l0 (k + 1) y0 y1 y2 y3))
 | 0 => fun _ _ _ _ r h => by simp [archivistlaw13_items.l0] at h
 | k + 1 => by
  have ih0 := archivistlaw13_items.mono_l k
  ·intro y0 y1 y2 y3
   unfold archivistlaw13_items.l0
   repeat' first
   | (with_reducible exact ih0 _ _ _ _)
   | (with_reducible exact archivistlaw13_Item_item.mono _ _ _ _ _ _ _ _)
   | (with_reducible exact LeO.refl _)
   | (with_reducible exact LeO.none _)
   | (with_reducible refine LeO.ite ?_ ?_)
   | (with_reducible refine LeO.bind ?_ (fun _ => ?_))
   | exact ih0 _ _ _ _
   | exact archivistlaw13_Item_item.mono _ _ _ _ _ _ _ _
   | exact LeO.none _
   | refine LeO.ite ?_ ?_
   | refine LeO.bind ?_ (fun _ => ?_)
theorem archivistlaw13_items.mono : ∀ a0 a1 k, LeO (archivistlaw13_items.f k a0 a1) (archivistlaw13_items.f (k + 1) a0 a1) := by
 intro a0 a1 k
 have ih0 := archivistlaw13_items.mono_l k
 unfold archivistlaw13_items.f
 repeat' first
   | (with_reducible exact ih0 _ _ _ _)
   | (with_reducible exact archivistlaw13_Item_item.mono _ _ _ _ _ _ _ _)
   | (with_reducible exact LeO.refl _)
   | (with_reducible exact LeO.none _)
   | (with_reducible refine LeO.ite ?_ ?_)
   | (with_reducible refine LeO.bind ?_ (fun _ => ?_))
   | exact ih0 _ _ _ _
   | exact archivistlaw13_Item_item.mono _ _ _ _ _ _ _ _
   | exact LeO.none _
   | refine LeO.ite ?_ ?_
   | refine LeO.bind ?_ (fun _ => ?_)
set_option maxHeartbeats 8000000 in
set_option maxRecDepth 100000 in
theorem archivistlaw13_items.calls (k : Nat) (P0_ : Nat → Prop) (A0 : Option Addr) (c0 : Nat) (l0 : List (S29)) (a1 : Int) (r : List (S25)) (w : World) (hs0 : Kd.V k29 29 w w.heap.size (fun k_ => P0_ k_) (.slice A0 l0.length c0) l0) (h : archivistlaw13_items.f k l0 a1 = some r) :
  Calls Tryd.prog 15 #[.slice A0 l0.length c0, .int .i64 a1] w fun e w' => ∃ v0_ : Value, e = .returned (v0_) ∧ Kd.N k25 25 w' w.heap.size (fun k_ => (P0_ k_ ∨ w.heap.size ≤ k_)) v0_ r ∧ Below w.heap.size w w' := by
 have hu29 := Tryd.underlying29
 have HO0 := Aside0.mk (show Kd.V k29 29 w w.heap.size (fun k_ => (P0_ k_ ∨ w.heap.size ≤ k_)) (.slice A0 l0.length c0) l0 from Kd.V_mono hs0 (fun k_ hk => .inl hk))
 have HB := Aside0.mk (Below.refl w.heap.size w)
 have H : (archivistlaw13_items.l0 k l0 a1 ([] : List (S25)) 0) = some r := h
 clear h
 have H' := Aside0.mk H
 clear H
 go_enter Tryd.func15, Tryd.ntmps15
 go_wp2
 go_loopg [5, 6] k (fun kq v5 v6 w' => ∃ (x5_1 : List (S25)) (x6_1 : Int), v6 = .int .i64 x6_1 ∧ Aside0 (archivistlaw13_items.l0 kq l0 a1 x5_1 x6_1 = some r) ∧ Aside0 (kq ≤ k) ∧ Aside0 (Kd.V k29 29 w' w.heap.size (fun k_ => (P0_ k_ ∨ w.heap.size ≤ k_) ∧ some k_ ≠ (v5 : Value).ownBlock) (.slice A0 l0.length c0) l0) ∧ Aside0 (Kd.N k25 25 w' w.heap.size (fun k_ => (P0_ k_ ∨ w.heap.size ≤ k_)) v5 x5_1) ∧ Aside0 (Below w.heap.size w w'))
 case atStart => exact ⟨(([] : List (S25))), (0), rs, H', ⟨Nat.le_refl _⟩, ⟨by (with_reducible repeat (first | apply Kd.V_alloc | apply Kd.V_drewN | apply Kd.V_drew)); exact Kd.V_mono HO0.out (fun _ hk => by first | exact ⟨hk, (by simp [Value.ownBlock])⟩ | grind)⟩, ⟨by first | exact Kd.S_nil _ _ _ _ _ | exact Kd.N_nil _ _ _ _ _ | exact Kd.V_nil _ _ _ _ _ | exact Kd.Q_nil _ _ _ _ _ | exact Kd.R_nil _ _ _ _ _⟩, ⟨bl⟩⟩
 case round =>
  clear H'
  try clear c1
  try clear p2
  obtain ⟨x5_1, x6_1, rfl, HA, HK1, HO_0, HO_5, HB⟩ := hrel
  cases gk with
  | zero => exact absurd HA.out (by simp [archivistlaw13_items.l0])
  | succ k1 =>
   have H := HA.out
   clear HA
   simp only [archivistlaw13_items.l0] at H
   by_cases c3 : x6_1 < (l0.length : Int)
   ·rw [if_pos c3] at H
    have c3b0 := decide_eq_true c3
    clear c3
    by_cases c4 : x6_1 < a1
    ·rw [if_pos c4] at H
     have c4b0 := decide_eq_true c4
     clear c4
     by_cases c5 : 0 ≤ x6_1
     ·rw [if_pos c5] at H
      have c5b0 := decide_eq_true c5
      clear c5
      replace H := Option.bind_eq_some_iff.mp H
      obtain ⟨⟨t380, t381, t384⟩, A60, H⟩ := H
      replace H : (if x5_1.length < 2932031007402 then (archivistlaw13_items.l0 k1 l0 a1 (x5_1 ++ [(⟨t380, t381, t384⟩ : S25)]) (wrap64 (x6_1 + 1))) else (none)) = some r := H
      have A6 := Aside0.mk A60
      clear A60
      by_cases c7 : x5_1.length < 2932031007402
      ·rw [if_pos c7] at H
       have LMc7 := Aside0.mk c7
       clear c7
       obtain ⟨y385, hy385⟩ : ∃ y_ : List (S25), y_ = (x5_1 ++ [(⟨t380, t381, t384⟩ : S25)]) := ⟨_, rfl⟩
       replace H : (archivistlaw13_items.l0 k1 l0 a1 y385 (wrap64 (x6_1 + 1))) = some r := by first | (rw [hy385]; with_reducible exact H) | (have H2_ := (Option.bind_some _ _).symm.trans H; rw [hy385]; with_reducible exact H2_) | (have H2_ := (Option.bind_some _ _).symm.trans H; with_reducible exact H2_) | with_reducible exact H | (rw [hy385]; exact H) | exact H
       have Ny385 := Aside0.mk hy385
       clear hy385
       have H' := Aside0.mk H
       clear H
       have p379 : 0 ≤ (x6_1 : Int) := od
       have q379 : x6_1 < (l0.length : Int) := od
       obtain ⟨ad379, A379_1, c379_1, A379_5, c379_5, e379, hx379_0, hx379_1, hx379_2, hx379_3, hx379_4, hx379_5, hx379_6, hl379_1, hi379_1, hl379_5, hi379_5⟩ := at_T29 (Kd.V_reads' HO_0.out).2.2 x6_1 p379 q379
       cases e379
       obtain ⟨ce379, hce379, hMe379, hcc379⟩ := Kd.V_get HO_0.out z29 x6_1 p379 (by first | exact q379 | exact od | (have e_ := (Kd.V_reads' HO_0.out).1; omega))
       obtain ⟨ua379_1, uc379_1, ua379_5, uc379_5, rfl, ul379_1, ge379_1, ul379_5, ge379_5⟩ := k29_openF hMe379
       have hv379_1 := hcc379 1 _ rfl
       rw [add_field _ _ 1 (by omega)] at hv379_1
       replace hv379_1 := Option.some.inj (hv379_1.symm.trans hx379_1)
       injection hv379_1 with hva_ hvn_ hvc_
       rw [hva_] at ge379_1
       rw [hvc_] at ul379_1
       have HL379_1 := Aside0.mk (show Kd.V k48 48 _ w.heap.size _ _ ((rd_T29 l0 x6_1).f0.f1) from Kd.V_mk ul379_1 ge379_1)
       clear hva_ hvn_ hvc_ ge379_1 ul379_1
       have hv379_5 := hcc379 5 _ rfl
       rw [add_field _ _ 5 (by omega)] at hv379_5
       replace hv379_5 := Option.some.inj (hv379_5.symm.trans hx379_5)
       injection hv379_5 with hva_ hvn_ hvc_
       rw [hva_] at ge379_5
       rw [hvc_] at ul379_5
       have HL379_5 := Aside0.mk (show Kd.V k71 71 _ w.heap.size _ _ ((rd_T29 l0 x6_1).f3) from Kd.V_mk ul379_5 ge379_5)
       clear hva_ hvn_ hvc_ ge379_5 ul379_5
       clear hcc379 hce379
       have HR379_1 := Aside0.mk hi379_1
       have HC379_1 := Aside0.mk hl379_1
       clear hi379_1 hl379_1
       have HR379_5 := Aside0.mk hi379_5
       have HC379_5 := Aside0.mk hl379_5
       clear hi379_5 hl379_5
       replace p379 := eq_true p379
       replace q379 := eq_true q379
       go_wp2_with (first | ((with_reducible refine gate_callee (f := 8) rfl ?_); refine goesL_ (some 23) rfl rfl Tryd.func8 (by kernel_rfl) rfl #[.agg #[.int .i64 ((rd_T29 l0 x6_1).f0.f0), .slice A379_1 ((rd_T29 l0 x6_1).f0.f1).length c379_1, .string ((rd_T29 l0 x6_1).f0.f2), .bool ((rd_T29 l0 x6_1).f1), .int .i8 ((rd_T29 l0 x6_1).f2), .slice A379_5 ((rd_T29 l0 x6_1).f3).length c379_5, .int .u8 ((rd_T29 l0 x6_1).f4)]] rfl ml ?_; (with_reducible refine (archivistlaw13_Item_item.calls k1 ((rd_T29 l0 x6_1).f0.f0) (fun k_ => ((P0_ k_ ∨ w.heap.size ≤ k_) ∧ some k_ ≠ (u5 : Value).ownBlock)) _ _ ((rd_T29 l0 x6_1).f0.f1) ((rd_T29 l0 x6_1).f0.f2) ((rd_T29 l0 x6_1).f1) ((rd_T29 l0 x6_1).f2) _ _ ((rd_T29 l0 x6_1).f3) ((rd_T29 l0 x6_1).f4) t380 t381 t384 _ ?side1 ?side2 ?side3 A6.out).mono ?_); (case side1 => exact HL379_1.out); (case side2 => repeat (first | exact (by repeat (first | (with_reducible exact HR379_5.out) | (with_reducible refine Kd.C_alloc ?_ _) | (with_reducible refine Kd.C_drewN ?_ _) | (with_reducible refine Kd.C_drew ?_) | exact HR379_5.out)) | (with_reducible refine Kd.C_alloc ?_ _) | (with_reducible refine Kd.C_drewN ?_ _) | (with_reducible refine Kd.C_drew ?_))); (case side3 => exact HC379_5.out); rintro e w8 ⟨v382, rfl, ho0, hb⟩; refine ⟨_, rfl, ?_⟩; have n0_ := Aside0.mk (Kd.V_below (by (with_reducible repeat (first | apply Kd.V_alloc | apply Kd.V_drewN | apply Kd.V_drew)); exact HO_0.out) hb); have n1_ := Aside0.mk (Kd.N_below (by (with_reducible repeat (first | apply Kd.N_alloc | apply Kd.N_drewN | apply Kd.N_drew)); exact HO_5.out) hb); have n2_ := Aside0.mk (Kd.V_below (by (with_reducible repeat (first | apply Kd.V_alloc | apply Kd.V_drewN | apply Kd.V_drew)); exact HL379_1.out) hb); have n3_ := Aside0.mk (Kd.V_below (by (with_reducible repeat (first | apply Kd.V_alloc | apply Kd.V_drewN | apply Kd.V_drew)); exact HL379_5.out) hb); have n4_ := Aside0.mk (Kd.V_lower (Kd.V_mono (ok' := fun k_ => (P0_ k_ ∨ w.heap.size ≤ k_) ∧ some k_ ≠ (u5 : Value).ownBlock) ho0 (fun k_ hk_ => ⟨Or.elim hk_ (fun hs_ => hs_.1) (fun hn_ => (.inr (Nat.le_trans (below_size bl) hn_))), Or.elim hk_ (fun hs_ => hs_.2) (fun hn_ => (Kd.fresh' (Kd.N_lt (by (with_reducible repeat (first | apply Kd.N_alloc | apply Kd.N_drewN | apply Kd.N_drew)); exact HO_5.out)) k_ hn_))⟩)) (below_size bl)); have n5_ := Aside0.mk (Kd.C_below (by repeat (first | (with_reducible exact HR379_1.out) | (with_reducible refine Kd.C_alloc ?_ _) | (with_reducible refine Kd.C_drewN ?_ _) | (with_reducible refine Kd.C_drew ?_) | exact HR379_1.out)) hb); have n6_ := Aside0.mk (Kd.C_below (by repeat (first | (with_reducible exact HR379_5.out) | (with_reducible refine Kd.C_alloc ?_ _) | (with_reducible refine Kd.C_drewN ?_ _) | (with_reducible refine Kd.C_drew ?_) | exact HR379_5.out)) hb); have n7_ := Aside0.mk (below_step bl hb); clear HO_0; clear HO_5; clear HL379_1; clear HL379_5; clear HR379_1; clear HR379_5; clear HB; have HO_0 := n0_; have HO_5 := n1_; have HL379_1 := n2_; have HL379_5 := n3_; have HO383 := n4_; have HR379_1 := n5_; have HR379_5 := n6_; have HB := n7_; clear n0_ n1_ n2_ n3_ n4_ n5_ n6_ n7_; (try clear hb); (try clear hb2); (try clear hk); (try clear hi); (try clear ho0); obtain ⟨Ao10, co10, eo10⟩ := Kd.V_slice HO383.out; subst eo10) | ((with_reducible refine gate_builtin (b := .append) (xs := #[.tmp 18, .tmp 24]) rfl ?_); at_builtin; refine Kd.N_append k25 (w0 := w) w.heap.size rfl (.tmp 18) (.tmp 24) 43 25 (.agg #[(.int .i64 0), (.slice none 0 0), (.string ⟨#[]⟩)]) 48 rfl Tryd.underlying43 info25 rfl (by decide) (by omega) u5 x5_1 (⟨t380, t381, t384⟩ : S25) [.int .i64 t380, .slice Ao10 t381.length co10, .string t384] (fun k_ => (P0_ k_ ∨ w.heap.size ≤ k_)) (fun k_ => ((fun k_ => (P0_ k_ ∨ w.heap.size ≤ k_))) k_ ∧ some k_ ≠ (u5 : Value).ownBlock) rfl rfl ?aP (fun _ hk => hk) ?aF ?aO ?aB ?aS ?aL ?_; (case aP => exact (k25_mkF _ _ (⟨t380, t381, t384⟩ : S25) (Kd.V_reads' (Kd.V_mono (ok' := (fun k_ => ((fun k_ => (P0_ k_ ∨ w.heap.size ≤ k_))) k_ ∧ some k_ ≠ (u5 : Value).ownBlock)) (HO383.out) (fun k_ hk => ⟨hk.1, hk.2⟩))).2.1 (Kd.V_F (Kd.V_mono (ok' := (fun k_ => ((fun k_ => (P0_ k_ ∨ w.heap.size ≤ k_))) k_ ∧ some k_ ≠ (u5 : Value).ownBlock)) (HO383.out) (fun k_ hk => ⟨hk.1, hk.2⟩))))); (case aB => exact bl); (case aF => exact (fun k_ hk => (.inr (Nat.le_trans (below_size bl) hk)))); (case aO => exact (by (with_reducible repeat (first | apply Kd.N_alloc | apply Kd.N_drewN | apply Kd.N_drew)); exact HO_5.out)); (case aS => exact (below_size bl)); (case aL => have := LMc7.out; omega); intro v386 w9 ho hb hg hat; rw [← Ny385.out] at ho; have n0_ := Aside0.mk (Kd.V_afterv (ok := (fun k_ => (P0_ k_ ∨ w.heap.size ≤ k_))) (by (with_reducible repeat (first | apply Kd.V_alloc | apply Kd.V_drewN | apply Kd.V_drew)); exact HO_0.out) hg hat); have n1_ := Aside0.mk (Kd.V_afterv (ok := (fun k_ => (P0_ k_ ∨ w.heap.size ≤ k_))) (by (with_reducible repeat (first | apply Kd.V_alloc | apply Kd.V_drewN | apply Kd.V_drew)); exact HL379_1.out) hg hat); have n2_ := Aside0.mk (Kd.V_afterv (ok := (fun k_ => (P0_ k_ ∨ w.heap.size ≤ k_))) (by (with_reducible repeat (first | apply Kd.V_alloc | apply Kd.V_drewN | apply Kd.V_drew)); exact HL379_5.out) hg hat); have n3_ := Aside0.mk (Kd.V_afterv (ok := (fun k_ => (P0_ k_ ∨ w.heap.size ≤ k_))) (by (with_reducible repeat (first | apply Kd.V_alloc | apply Kd.V_drewN | apply Kd.V_drew)); exact HO383.out) hg hat); have n4_ := Aside0.mk (hb); have n5_ := Aside0.mk (ho); clear HO_0; clear HL379_1; clear HL379_5; clear HO383; clear HB; clear HO_5; have HO_0 := n0_; have HL379_1 := n1_; have HL379_5 := n2_; have HO383 := n3_; have HB := n4_; have HO387 := n5_; clear n0_ n1_ n2_ n3_ n4_ n5_; clear ho hb hg hat))
       go_roundg k1
       case measure => have := HK1.out; omega
       case rel => exact ⟨(y385), (wrap64 (x6_1 + 1)), rs, H', ⟨by have := HK1.out; omega⟩, ⟨by (with_reducible repeat (first | apply Kd.V_alloc | apply Kd.V_drewN | apply Kd.V_drew)); exact HO_0.out⟩, ⟨by (with_reducible repeat (first | apply Kd.N_alloc | apply Kd.N_drewN | apply Kd.N_drew)); exact HO387.out⟩, ⟨bl⟩⟩
      ·rw [if_neg c7] at H
       exact absurd H (by simp)
     ·rw [if_neg c5] at H
      exact absurd H (by simp)
    ·rw [if_neg c4] at H
     have c4b0 : decide (x6_1 < a1) = false := decide_eq_false c4
     clear c4
     obtain rfl := Option.some.inj H
     go_wp2
     go_ret
     exact ⟨_, by first | rfl | (simp [errW_none, errW_some] <;> rfl) | (simp [*, errW_none, errW_some] <;> rfl), by (with_reducible repeat (first | apply Kd.N_alloc | apply Kd.N_drewN | apply Kd.N_drew)); exact HO_5.out, bl⟩
   ·rw [if_neg c3] at H
    have c3b0 : decide (x6_1 < (l0.length : Int)) = false := decide_eq_false c3
    clear c3
    obtain rfl := Option.some.inj H
    go_wp2
    go_ret
    exact ⟨_, by first | rfl | (simp [errW_none, errW_some] <;> rfl) | (simp [*, errW_none, errW_some] <;> rfl), by (with_reducible repeat (first | apply Kd.N_alloc | apply Kd.N_drewN | apply Kd.N_drew)); exact HO_5.out, bl⟩

end Go.Proofs.YtjmbddgbojcpmaaDoor.X
