-- Laid by xprint.py, a program of this session's, out of the translation.
import Derived.Test.YtielpefbgdilaaaX0
import Derived.Test.YtielpefbgdilaaaX4
import Derived.Test.YtielpefbgdilaaaX5
import Derived.Test.YtielpefbgdilaaaX6
import Derived.Test.YtielpefbgdilaaaX7
namespace Go.Proofs.Ytielpefbgdilaaa.X
open Go.RowKit Go.Proofs.YtielpefbgdilaaaW.PrintWords Go.Proofs.YtielpefbgdilaaaW.PrintLast Go.Proofs.YtielpefbgdilaaaW.PrintMore
attribute [local go_sem] max2_int min2_int max_two min_two max_three min_three max_four min_four x_isSome x_str_gtr x_str_leq x_str_geq   -- for this text's walks alone
set_option linter.unusedVariables false
set_option linter.unusedSimpArgs false

/-! ### label_Of: function 23 -/
def label_Of.l0 : Nat → List (S39) → List (S39) → Int → Int → Option ((List (S39)))
 | 0, _, _, _, _ => none
 | k + 1, x3, x8, x9, x10 => if x10 < x9 then (if 0 ≤ x10 then (if x10 < (x8.length : Int) then ((label_Name.f k ((rd_T39 x8 x10).f0)).bind fun t132 => (if t132 = true then ((label_Pair_label_names.f k x3 ((rd_T39 x8 x10).f0) ((rd_T39 x8 x10).f1)).bind fun bt133 => (if bt133.2 = true then (if 0 ≤ bt133.1 then (if bt133.1 < (x3.length : Int) then (label_Of.l0 k (x3.set (bt133.1 : Int).toNat (⟨(rd_T39 x8 x10).f0, (rd_T39 x8 x10).f1⟩ : S39)) x8 x9 (wrap64 (x10 + 1))) else (none)) else (none)) else ((label_Pair_36.f x3 bt133.1 (([(⟨(rd_T39 x8 x10).f0, (rd_T39 x8 x10).f1⟩ : S39)] : List (S39)))).bind fun t139 => (label_Of.l0 k t139 x8 x9 (wrap64 (x10 + 1)))))) else (label_Of.l0 k x3 x8 x9 (wrap64 (x10 + 1))))) else (none)) else (none)) else (some x3)
def label_Of.f (k : Nat) (l0 : List (S39)) : Option ((List (S39))) := label_Of.l0 k ([] : List (S39)) l0 (l0.length : Int) 0
theorem label_Of.mono_l : ∀ k, (∀ y0 y1 y2 y3, LeO (label_Of.l0 k y0 y1 y2 y3) (label_Of.l0 (k + 1) y0 y1 y2 y3))
 | 0 => fun _ _ _ _ r h => by simp [label_Of.l0] at h
 | k + 1 => by
  have ih0 := label_Of.mono_l k
  ·intro y0 y1 y2 y3
   unfold label_Of.l0
   repeat' first
   | (with_reducible exact ih0 _ _ _ _)
   | (with_reducible exact label_Name.mono _ _)
   | (with_reducible exact label_Pair_label_names.mono _ _ _ _)
   | (with_reducible exact LeO.refl _)
   | (with_reducible exact LeO.none _)
   | (with_reducible refine LeO.ite ?_ ?_)
   | (with_reducible refine LeO.bind ?_ (fun _ => ?_))
   | exact ih0 _ _ _ _
   | exact label_Name.mono _ _
   | exact label_Pair_label_names.mono _ _ _ _
   | exact LeO.none _
   | refine LeO.ite ?_ ?_
   | refine LeO.bind ?_ (fun _ => ?_)
theorem label_Of.mono : ∀ a0 k, LeO (label_Of.f k a0) (label_Of.f (k + 1) a0) := by
 intro a0 k
 have ih0 := label_Of.mono_l k
 unfold label_Of.f
 repeat' first
   | (with_reducible exact ih0 _ _ _ _)
   | (with_reducible exact label_Name.mono _ _)
   | (with_reducible exact label_Pair_label_names.mono _ _ _ _)
   | (with_reducible exact LeO.refl _)
   | (with_reducible exact LeO.none _)
   | (with_reducible refine LeO.ite ?_ ?_)
   | (with_reducible refine LeO.bind ?_ (fun _ => ?_))
   | exact ih0 _ _ _ _
   | exact label_Name.mono _ _
   | exact label_Pair_label_names.mono _ _ _ _
   | exact LeO.none _
   | refine LeO.ite ?_ ?_
   | refine LeO.bind ?_ (fun _ => ?_)
set_option maxHeartbeats 8000000 in
set_option maxRecDepth 100000 in
theorem label_Of.calls (k : Nat) (A0 : Option Addr) (c0 : Nat) (l0 : List (S39)) (r : List (S39)) (w : World) (hr0 : Kd.C k39 w A0 l0.length l0) (hc0 : l0.length ≤ c0) (h : label_Of.f k l0 = some r) :
  Calls Try.prog 23 #[.slice A0 l0.length c0] w fun e w' => ∃ v0_ : Value, e = .returned (v0_) ∧ Kd.R k39 39 w' w.heap.size (fun _ => True) v0_ r ∧ Below w.heap.size w w' := by
 have hu39 := Try.underlying39
 have HR0 := Aside0.mk hr0
 have HC0 := Aside0.mk hc0
 clear hr0 hc0
 have HB := Aside0.mk (Below.refl w.heap.size w)
 have H : (label_Of.l0 k ([] : List (S39)) l0 (l0.length : Int) 0) = some r := h
 clear h
 have H' := Aside0.mk H
 clear H
 go_enter Try.func23, Try.ntmps23
 go_wp2
 go_loopg [3, 10] k (fun kq v3 v10 w' => ∃ (x3_1 : List (S39)) (x10_1 : Int), v10 = .int .i64 x10_1 ∧ Aside0 (label_Of.l0 kq x3_1 l0 (l0.length : Int) x10_1 = some r) ∧ Aside0 (kq ≤ k) ∧ Aside0 (Kd.R k39 39 w' w.heap.size (fun _ => True) v3 x3_1) ∧ Aside0 (Below w.heap.size w w'))
 case atStart => exact ⟨(([] : List (S39))), (0), rs, H', ⟨Nat.le_refl _⟩, ⟨by first | exact Kd.R_nil _ _ _ _ _ | exact Kd.N_nil _ _ _ _ _ | exact Kd.V_nil _ _ _ _ _ | exact Kd.Q_nil _ _ _ _ _ | exact Kd.S_nil _ _ _ _ _⟩, ⟨bl⟩⟩
 case round =>
  clear H'
  obtain ⟨x3_1, x10_1, rfl, HA, HK1, HO_3, HB⟩ := hrel
  cases gk with
  | zero => exact absurd HA.out (by simp [label_Of.l0])
  | succ k1 =>
   have H := HA.out
   clear HA
   simp only [label_Of.l0] at H
   by_cases c2 : x10_1 < (l0.length : Int)
   ·rw [if_pos c2] at H
    have c2b0 := decide_eq_true c2
    clear c2
    by_cases c3 : 0 ≤ x10_1
    ·rw [if_pos c3] at H
     have c3b0 := decide_eq_true c3
     clear c3
     by_cases c4 : x10_1 < (l0.length : Int)
     ·rw [if_pos c4] at H
      have c4b0 := decide_eq_true c4
      clear c4
      replace H := Option.bind_eq_some_iff.mp H
      obtain ⟨t132, A50, H⟩ := H
      replace H : (if t132 = true then ((label_Pair_label_names.f k1 x3_1 ((rd_T39 l0 x10_1).f0) ((rd_T39 l0 x10_1).f1)).bind fun bt133 => (if bt133.2 = true then (if 0 ≤ bt133.1 then (if bt133.1 < (x3_1.length : Int) then (label_Of.l0 k1 (x3_1.set (bt133.1 : Int).toNat (⟨(rd_T39 l0 x10_1).f0, (rd_T39 l0 x10_1).f1⟩ : S39)) l0 (l0.length : Int) (wrap64 (x10_1 + 1))) else (none)) else (none)) else ((label_Pair_36.f x3_1 bt133.1 (([(⟨(rd_T39 l0 x10_1).f0, (rd_T39 l0 x10_1).f1⟩ : S39)] : List (S39)))).bind fun t139 => (label_Of.l0 k1 t139 l0 (l0.length : Int) (wrap64 (x10_1 + 1)))))) else (label_Of.l0 k1 x3_1 l0 (l0.length : Int) (wrap64 (x10_1 + 1)))) = some r := H
      have A5 := Aside0.mk A50
      clear A50
      by_cases c6 : t132 = true
      ·subst c6
       have H1 : ((label_Pair_label_names.f k1 x3_1 ((rd_T39 l0 x10_1).f0) ((rd_T39 l0 x10_1).f1)).bind fun bt133 => (if bt133.2 = true then (if 0 ≤ bt133.1 then (if bt133.1 < (x3_1.length : Int) then (label_Of.l0 k1 (x3_1.set (bt133.1 : Int).toNat (⟨(rd_T39 l0 x10_1).f0, (rd_T39 l0 x10_1).f1⟩ : S39)) l0 (l0.length : Int) (wrap64 (x10_1 + 1))) else (none)) else (none)) else ((label_Pair_36.f x3_1 bt133.1 (([(⟨(rd_T39 l0 x10_1).f0, (rd_T39 l0 x10_1).f1⟩ : S39)] : List (S39)))).bind fun t139 => (label_Of.l0 k1 t139 l0 (l0.length : Int) (wrap64 (x10_1 + 1)))))) = some r := by rw [if_pos rfl] at H; exact H
       clear H
       have H := H1
       clear H1
       replace H := Option.bind_eq_some_iff.mp H
       obtain ⟨⟨t133, t134⟩, A70, H⟩ := H
       replace H : (if t134 = true then (if 0 ≤ t133 then (if t133 < (x3_1.length : Int) then (label_Of.l0 k1 (x3_1.set (t133 : Int).toNat (⟨(rd_T39 l0 x10_1).f0, (rd_T39 l0 x10_1).f1⟩ : S39)) l0 (l0.length : Int) (wrap64 (x10_1 + 1))) else (none)) else (none)) else ((label_Pair_36.f x3_1 t133 (([(⟨(rd_T39 l0 x10_1).f0, (rd_T39 l0 x10_1).f1⟩ : S39)] : List (S39)))).bind fun t139 => (label_Of.l0 k1 t139 l0 (l0.length : Int) (wrap64 (x10_1 + 1))))) = some r := H
       have A7 := Aside0.mk A70
       clear A70
       by_cases c8 : t134 = true
       ·subst c8
        have H1 : (if 0 ≤ t133 then (if t133 < (x3_1.length : Int) then (label_Of.l0 k1 (x3_1.set (t133 : Int).toNat (⟨(rd_T39 l0 x10_1).f0, (rd_T39 l0 x10_1).f1⟩ : S39)) l0 (l0.length : Int) (wrap64 (x10_1 + 1))) else (none)) else (none)) = some r := by rw [if_pos rfl] at H; exact H
        clear H
        have H := H1
        clear H1
        by_cases c9 : 0 ≤ t133
        ·rw [if_pos c9] at H
         have c9b0 := decide_eq_true c9
         clear c9
         by_cases c10 : t133 < (x3_1.length : Int)
         ·rw [if_pos c10] at H
          have c10b0 := decide_eq_true c10
          clear c10
          obtain ⟨y135, hy135⟩ : ∃ y_ : List (S39), y_ = (x3_1.set (t133 : Int).toNat (⟨(rd_T39 l0 x10_1).f0, (rd_T39 l0 x10_1).f1⟩ : S39)) := ⟨_, rfl⟩
          replace H : (label_Of.l0 k1 y135 l0 (l0.length : Int) (wrap64 (x10_1 + 1))) = some r := by first | (rw [hy135]; with_reducible exact H) | (have H2_ := (Option.bind_some _ _).symm.trans H; rw [hy135]; with_reducible exact H2_) | (have H2_ := (Option.bind_some _ _).symm.trans H; with_reducible exact H2_) | with_reducible exact H | (rw [hy135]; exact H) | exact H
          have Ny135 := Aside0.mk hy135
          clear hy135
          have H' := Aside0.mk H
          clear H
          have p130 : 0 ≤ (x10_1 : Int) := od
          have q130 : x10_1 < (l0.length : Int) := od
          obtain ⟨ad130, e130, hx130_0, hx130_1⟩ := at_T39 HR0.out x10_1 p130 q130
          cases e130
          replace hx130_0 := cu HB.out hx130_0
          replace hx130_1 := cu HB.out hx130_1
          replace p130 := eq_true p130
          replace q130 := eq_true q130
          go_wp2_with (first | ((with_reducible refine gate_dst (N := 5) rfl ?_); refine box_event ?hg (N := 5) ?hd (cs := #[.string (⟨#[]⟩ : ByteArray), .string (⟨#[]⟩ : ByteArray)]) (t := 39) ?hr ?_; (case hd => rfl); (case hg => rfl); (case hr => first | (go_simp; done) | (go_simp; rfl)); intro gb131 hg w12 hbox hb; have n0_ := Aside0.mk (Kd.R_below (Kd.R_elderB (rz HO_3.out) gb131 (Nat.le_of_eq hg.symm)) hb); have n1_ := Aside0.mk (below_step bl hb); have n2_ := Aside0.mk (hbox); have n3_ := Aside0.mk ((by rw [hg]; exact (below_size bl) : w.heap.size ≤ gb131)); have n4_ := Aside0.mk ((by rw [hg]; exact (below_size bl) : w.heap.size ≤ gb131)); clear HO_3; clear HB; have HO_3 := n0_; have HB := n1_; have BK131 := n2_; have GW131 := n3_; have GE131 := n4_; clear n0_ n1_ n2_ n3_ n4_; clear hb hbox hg; have hcz13_0 : w12.cell? ⟨gb131, 0, none⟩ = some (.string (⟨#[]⟩ : ByteArray)) := (blk_cell BK131.out 0).trans rfl; have hcz13_1 : w12.cell? ⟨gb131, 1, none⟩ = some (.string (⟨#[]⟩ : ByteArray)) := (blk_cell BK131.out 1).trans rfl; have hfz13_0 := blk_frozen BK131.out 0; have hfz13_1 := blk_frozen BK131.out 1) | ((with_reducible refine gate_callee (f := 21) rfl ?_); refine goesL_ (some 16) rfl rfl Try.func21 (by kernel_rfl) rfl #[.string ((rd_T39 l0 x10_1).f0)] rfl ml ?_; (with_reducible refine (label_Name.calls k1 ((rd_T39 l0 x10_1).f0) true _ A5.out).mono ?_); rintro e w14 ⟨rfl, hb⟩; refine ⟨_, rfl, ?_⟩; have n0_ := Aside0.mk (Kd.R_below (by (with_reducible repeat (first | apply Kd.R_alloc | apply Kd.R_drewN | apply Kd.R_drew)); exact (Kd.R_mono (Kd.R_far (p := ⟨gb131, 1, none⟩) (Kd.R_far (p := ⟨gb131, 0, none⟩) (Kd.R_mono HO_3.out (fun k_ hk => (⟨hk, hk.2⟩ : _ ∧ k_ ≠ gb131))) (fun _ hk => hk.2) (.string ((rd_T39 l0 x10_1).f0))) (fun _ hk => hk.2) (.string ((rd_T39 l0 x10_1).f1))) (fun _ h_ => h_.1))) hb); have n1_ := Aside0.mk (blk_below (g := gb131) (o := .cells #[.string ((rd_T39 l0 x10_1).f0), .string ((rd_T39 l0 x10_1).f1)] 39 (0, 0)) (by (with_reducible repeat (first | refine blk_drewN ?_ _ | refine blk_drew ?_ | refine blk_alloc ?_ _)); refine blk_put (cs := #[.string ((rd_T39 l0 x10_1).f0), .string (⟨#[]⟩ : ByteArray)]) ?_ 1 _ rfl; (with_reducible repeat (first | refine blk_drewN ?_ _ | refine blk_drew ?_ | refine blk_alloc ?_ _)); refine blk_put (cs := #[.string (⟨#[]⟩ : ByteArray), .string (⟨#[]⟩ : ByteArray)]) ?_ 0 _ rfl; (with_reducible repeat (first | refine blk_drewN ?_ _ | refine blk_drew ?_ | refine blk_alloc ?_ _)); exact BK131.out) hb); have n2_ := Aside0.mk (below_step (by repeat (first | (with_reducible first | exact HB.out | apply below_alloc | apply pw_below_drewN | apply below_drew1 | refine below_set ?_ GE131.out) | exact HB.out)) hb); clear HO_3; clear BK131; clear HB; have HO_3 := n0_; have BK131 := n1_; have HB := n2_; clear n0_ n1_ n2_; (try clear hb); (try clear hb2); (try clear hk); (try clear hi); have hcz15_0 : w14.cell? ⟨gb131, 0, none⟩ = some (.string ((rd_T39 l0 x10_1).f0)) := (blk_cell BK131.out 0).trans rfl; have hcz15_1 : w14.cell? ⟨gb131, 1, none⟩ = some (.string ((rd_T39 l0 x10_1).f1)) := (blk_cell BK131.out 1).trans rfl; have hfz15_0 := blk_frozen BK131.out 0; have hfz15_1 := blk_frozen BK131.out 1; obtain ⟨Ao16, co16, eo16⟩ := Kd.R_slice HO_3.out; subst eo16) | ((with_reducible refine gate_callee (f := 35) rfl ?_); refine goesL_ (some 21) rfl rfl Try.func35 (by kernel_rfl) rfl #[.slice Ao16 x3_1.length co16, .agg #[.string ((rd_T39 l0 x10_1).f0), .string ((rd_T39 l0 x10_1).f1)], .func (.func 34) #[] #[]] rfl ml ?_; (with_reducible refine (label_Pair_label_names.calls k1 _ _ x3_1 ((rd_T39 l0 x10_1).f0) ((rd_T39 l0 x10_1).f1) t133 true _ ?side1 ?side2 A7.out).mono ?_); (case side1 => exact cz (Kd.R_reads' HO_3.out).2.2); (case side2 => exact (Kd.R_reads' HO_3.out).2.1); rintro e w17 ⟨rfl, hb⟩; refine ⟨_, rfl, ?_⟩; have n0_ := Aside0.mk (Kd.R_below (rz HO_3.out) hb); have n1_ := Aside0.mk (blk_below (g := gb131) (o := .cells #[.string ((rd_T39 l0 x10_1).f0), .string ((rd_T39 l0 x10_1).f1)] 39 (0, 0)) (bz BK131.out) hb); have n2_ := Aside0.mk (below_step (by repeat (first | (with_reducible first | exact HB.out | apply below_alloc | apply pw_below_drewN | apply below_drew1 | refine below_set ?_ GE131.out) | exact HB.out)) hb); clear HO_3; clear BK131; clear HB; have HO_3 := n0_; have BK131 := n1_; have HB := n2_; clear n0_ n1_ n2_; (try clear hb); (try clear hb2); (try clear hk); (try clear hi); have hcz18_0 : w17.cell? ⟨gb131, 0, none⟩ = some (.string ((rd_T39 l0 x10_1).f0)) := (blk_cell BK131.out 0).trans rfl; have hcz18_1 : w17.cell? ⟨gb131, 1, none⟩ = some (.string ((rd_T39 l0 x10_1).f1)) := (blk_cell BK131.out 1).trans rfl; have hfz18_0 := blk_frozen BK131.out 0; have hfz18_1 := blk_frozen BK131.out 1; have p11 : 0 ≤ (t133 : Int) := od; have q11 : (t133 : Int) < ((x3_1.length : Int) : Int) := od; obtain ⟨go11, co11, eo11, gb11, gl11, cl11, HG11⟩ := Kd.R_form HO_3.out (by omega); (first | cases eo11 | (injection eo11 with ea_ en_ ec_; (first | subst ea_ | (injection ea_ with ea_; subst ea_)); subst ec_; clear en_)); have GB11 := Aside0.mk gb11; have GG11 := Aside0.mk HG11; clear gb11 gl11 HG11; obtain ⟨ce11, hcl11, hM11, hcc11, hfr11⟩ := Kd.R_elem HO_3.out z39 (t133 : Int) p11 q11; obtain rfl := k39_openM hM11; have hx11_0 : w17.cell? ⟨go11, (t133 : Int).toNat * 2, none⟩ = some (.string ((rd_T39 x3_1 t133).f0)) := hcc11 0 _ rfl; have hx11_1 : w17.cell? ⟨go11, (t133 : Int).toNat * 2 + 1, none⟩ = some (.string ((rd_T39 x3_1 t133).f1)) := hcc11 1 _ rfl; have hf11_0 : w17.frozen? ⟨go11, (t133 : Int).toNat * 2, none⟩ = false := hfr11 0; have hf11_1 : w17.frozen? ⟨go11, (t133 : Int).toNat * 2 + 1, none⟩ = false := hfr11 1; clear hcl11 hcc11 hfr11 hM11; replace p11 := eq_true p11; replace q11 := eq_true q11; have n_ := Aside0.mk (Kd.R_mono (ok' := (fun k_ => k_ ≠ gb131)) HO_3.out (fun k_ hk => hk.2)); clear HO_3; have HO_3 := n_; clear n_; have HX19 := Aside0.mk (show Kd.R k39 39 w17 w.heap.size (fun k_ => k_ ≠ gb131) (.slice (some ⟨go11, 0, none⟩) x3_1.length co16) x3_1 from (rz HO_3.out)); obtain ⟨ce19, hcl19, hM19, hcc19, hfr19⟩ := Kd.R_elem HX19.out z39 (t133 : Int) (od) (by have h_ : (t133 : Int) < ((x3_1.length : Int) : Int) := od; first | exact h_ | (have e_ := (Kd.R_reads' HO_3.out).1; omega) | simpa using h_); obtain rfl := k39_openM hM19; have HP19 := Kd.R_seg HX19.out (t133 : Int) (od) (by have h_ : (t133 : Int) < ((x3_1.length : Int) : Int) := od; first | exact h_ | (have e_ := (Kd.R_reads' HO_3.out).1; omega) | simpa using h_) (seg := [.string ((rd_T39 l0 x10_1).f0), .string ((rd_T39 l0 x10_1).f1)]) (j := 0) hcl19 hcc19 (show 2 ≤ 2 from by decide) (x' := (⟨(rd_T39 l0 x10_1).f0, (rd_T39 l0 x10_1).f1⟩ : S39)) (k39_mkM _ _ _ (⟨(rd_T39 l0 x10_1).f0, (rd_T39 l0 x10_1).f1⟩ : S39) ) (fun _ hk => hk); have hx19_0 := hcc19 0 _ rfl; (try simp only [show (k39).sz = 2 from rfl, Nat.mul_one, Nat.add_zero] at hx19_0); have hf19_0 := hfr19 0; (try simp only [show (k39).sz = 2 from rfl, Nat.mul_one, Nat.add_zero] at hf19_0); have hx19_1 := hcc19 1 _ rfl; (try simp only [show (k39).sz = 2 from rfl, Nat.mul_one, Nat.add_zero] at hx19_1); have hf19_1 := hfr19 1; (try simp only [show (k39).sz = 2 from rfl, Nat.mul_one, Nat.add_zero] at hf19_1); clear hcl19 hcc19 hfr19 hM19) | ((with_reducible refine gate_store (t := 39) (p := 28) rfl ?_); refine store_event (t := 39) (p := 28) (v := ?vo_w20) (w1 := ((w17.setCell ⟨go11, (t133 : Int).toNat * 2, none⟩ (.string ((rd_T39 l0 x10_1).f0))).setCell ⟨go11, (t133 : Int).toNat * 2 + 1, none⟩ (.string ((rd_T39 l0 x10_1).f1)))) ?hg ?ho ?hn ?hr ?_; (case ho => rfl); (case hg => rfl); (case hn => rfl); (case hr => first | (go_simp; done) | (go_simp; rfl)); intro w20 hw; have hg : w17.grownBy w20 (some go11) := (by rw [hw]; exact HP19.2); have hp_ : Kd.R k39 39 w20 w.heap.size (fun k_ => k_ ≠ gb131) (.slice (some ⟨go11, 0, none⟩) x3_1.length co16) y135 := (by rw [hw, Ny135.out]; exact HP19.1); clear HP19; have n0_ := Aside0.mk (hp_); have n1_ := Aside0.mk (blk_grown (g := gb131) (o := .cells #[.string ((rd_T39 l0 x10_1).f0), .string ((rd_T39 l0 x10_1).f1)] 39 (0, 0)) (bz BK131.out) hg (Kd.R_away HO_3.out (fun _ hk => hk))); have n2_ := Aside0.mk ((by rw [hw]; exact below_set (below_set (HB.out) GB11.out) GB11.out : Below w.heap.size w w20)); clear HO_3; clear BK131; clear HB; have HO_3 := n0_; have BK131 := n1_; have HB := n2_; clear n0_ n1_ n2_; clear hg hw hp_))
          go_roundg k1
          case measure => have := HK1.out; omega
          case rel => exact ⟨(y135), (wrap64 (x10_1 + 1)), rs, H', ⟨by have := HK1.out; omega⟩, ⟨by (with_reducible repeat (first | apply Kd.R_alloc | apply Kd.R_drewN | apply Kd.R_drew)); exact Kd.R_mono HO_3.out (fun _ hk => trivial)⟩, ⟨by repeat (first | (with_reducible first | exact HB.out | apply below_alloc | apply pw_below_drewN | apply below_drew1 | refine below_set ?_ GE131.out) | exact HB.out)⟩⟩
         ·rw [if_neg c10] at H
          exact absurd H (by simp)
        ·rw [if_neg c9] at H
         exact absurd H (by simp)
       ·replace c8 := Bool.eq_false_iff.mpr c8
        subst c8
        have H1 : ((label_Pair_36.f x3_1 t133 (([(⟨(rd_T39 l0 x10_1).f0, (rd_T39 l0 x10_1).f1⟩ : S39)] : List (S39)))).bind fun t139 => (label_Of.l0 k1 t139 l0 (l0.length : Int) (wrap64 (x10_1 + 1)))) = some r := by rw [if_neg (show ¬ (false = true) by decide)] at H; exact H
        clear H
        have H := H1
        clear H1
        obtain ⟨y136, hy136⟩ : ∃ y_ : List (S39), y_ = (([(⟨(rd_T39 l0 x10_1).f0, (rd_T39 l0 x10_1).f1⟩ : S39)] : List (S39))) := ⟨_, rfl⟩
        replace H : ((label_Pair_36.f x3_1 t133 y136).bind fun t139 => (label_Of.l0 k1 t139 l0 (l0.length : Int) (wrap64 (x10_1 + 1)))) = some r := by first | (rw [hy136]; with_reducible exact H) | (have H2_ := (Option.bind_some _ _).symm.trans H; rw [hy136]; with_reducible exact H2_) | (have H2_ := (Option.bind_some _ _).symm.trans H; with_reducible exact H2_) | with_reducible exact H | (rw [hy136]; exact H) | exact H
        have Ny136 := Aside0.mk hy136
        clear hy136
        replace H := Option.bind_eq_some_iff.mp H
        obtain ⟨t139, A210, H⟩ := H
        replace H : (label_Of.l0 k1 t139 l0 (l0.length : Int) (wrap64 (x10_1 + 1))) = some r := H
        have A21 := Aside0.mk A210
        clear A210
        have H' := Aside0.mk H
        clear H
        have p130 : 0 ≤ (x10_1 : Int) := od
        have q130 : x10_1 < (l0.length : Int) := od
        obtain ⟨ad130, e130, hx130_0, hx130_1⟩ := at_T39 HR0.out x10_1 p130 q130
        cases e130
        replace hx130_0 := cu HB.out hx130_0
        replace hx130_1 := cu HB.out hx130_1
        replace p130 := eq_true p130
        replace q130 := eq_true q130
        go_wp2_with (first | ((with_reducible refine gate_dst (N := 5) rfl ?_); refine box_event ?hg (N := 5) ?hd (cs := #[.string (⟨#[]⟩ : ByteArray), .string (⟨#[]⟩ : ByteArray)]) (t := 39) ?hr ?_; (case hd => rfl); (case hg => rfl); (case hr => first | (go_simp; done) | (go_simp; rfl)); intro gb131 hg w22 hbox hb; have n0_ := Aside0.mk (Kd.R_below (Kd.R_elderB (rz HO_3.out) gb131 (Nat.le_of_eq hg.symm)) hb); have n1_ := Aside0.mk (below_step bl hb); have n2_ := Aside0.mk (hbox); have n3_ := Aside0.mk ((by rw [hg]; exact (below_size bl) : w.heap.size ≤ gb131)); have n4_ := Aside0.mk ((by rw [hg]; exact (below_size bl) : w.heap.size ≤ gb131)); clear HO_3; clear HB; have HO_3 := n0_; have HB := n1_; have BK131 := n2_; have GW131 := n3_; have GE131 := n4_; clear n0_ n1_ n2_ n3_ n4_; clear hb hbox hg; have hcz23_0 : w22.cell? ⟨gb131, 0, none⟩ = some (.string (⟨#[]⟩ : ByteArray)) := (blk_cell BK131.out 0).trans rfl; have hcz23_1 : w22.cell? ⟨gb131, 1, none⟩ = some (.string (⟨#[]⟩ : ByteArray)) := (blk_cell BK131.out 1).trans rfl; have hfz23_0 := blk_frozen BK131.out 0; have hfz23_1 := blk_frozen BK131.out 1) | ((with_reducible refine gate_callee (f := 21) rfl ?_); refine goesL_ (some 16) rfl rfl Try.func21 (by kernel_rfl) rfl #[.string ((rd_T39 l0 x10_1).f0)] rfl ml ?_; (with_reducible refine (label_Name.calls k1 ((rd_T39 l0 x10_1).f0) true _ A5.out).mono ?_); rintro e w24 ⟨rfl, hb⟩; refine ⟨_, rfl, ?_⟩; have n0_ := Aside0.mk (Kd.R_below (by (with_reducible repeat (first | apply Kd.R_alloc | apply Kd.R_drewN | apply Kd.R_drew)); exact (Kd.R_mono (Kd.R_far (p := ⟨gb131, 1, none⟩) (Kd.R_far (p := ⟨gb131, 0, none⟩) (Kd.R_mono HO_3.out (fun k_ hk => (⟨hk, hk.2⟩ : _ ∧ k_ ≠ gb131))) (fun _ hk => hk.2) (.string ((rd_T39 l0 x10_1).f0))) (fun _ hk => hk.2) (.string ((rd_T39 l0 x10_1).f1))) (fun _ h_ => h_.1))) hb); have n1_ := Aside0.mk (blk_below (g := gb131) (o := .cells #[.string ((rd_T39 l0 x10_1).f0), .string ((rd_T39 l0 x10_1).f1)] 39 (0, 0)) (by (with_reducible repeat (first | refine blk_drewN ?_ _ | refine blk_drew ?_ | refine blk_alloc ?_ _)); refine blk_put (cs := #[.string ((rd_T39 l0 x10_1).f0), .string (⟨#[]⟩ : ByteArray)]) ?_ 1 _ rfl; (with_reducible repeat (first | refine blk_drewN ?_ _ | refine blk_drew ?_ | refine blk_alloc ?_ _)); refine blk_put (cs := #[.string (⟨#[]⟩ : ByteArray), .string (⟨#[]⟩ : ByteArray)]) ?_ 0 _ rfl; (with_reducible repeat (first | refine blk_drewN ?_ _ | refine blk_drew ?_ | refine blk_alloc ?_ _)); exact BK131.out) hb); have n2_ := Aside0.mk (below_step (by repeat (first | (with_reducible first | exact HB.out | apply below_alloc | apply pw_below_drewN | apply below_drew1 | refine below_set ?_ GE131.out) | exact HB.out)) hb); clear HO_3; clear BK131; clear HB; have HO_3 := n0_; have BK131 := n1_; have HB := n2_; clear n0_ n1_ n2_; (try clear hb); (try clear hb2); (try clear hk); (try clear hi); have hcz25_0 : w24.cell? ⟨gb131, 0, none⟩ = some (.string ((rd_T39 l0 x10_1).f0)) := (blk_cell BK131.out 0).trans rfl; have hcz25_1 : w24.cell? ⟨gb131, 1, none⟩ = some (.string ((rd_T39 l0 x10_1).f1)) := (blk_cell BK131.out 1).trans rfl; have hfz25_0 := blk_frozen BK131.out 0; have hfz25_1 := blk_frozen BK131.out 1; obtain ⟨Ao26, co26, eo26⟩ := Kd.R_slice HO_3.out; subst eo26) | ((with_reducible refine gate_callee (f := 35) rfl ?_); refine goesL_ (some 21) rfl rfl Try.func35 (by kernel_rfl) rfl #[.slice Ao26 x3_1.length co26, .agg #[.string ((rd_T39 l0 x10_1).f0), .string ((rd_T39 l0 x10_1).f1)], .func (.func 34) #[] #[]] rfl ml ?_; (with_reducible refine (label_Pair_label_names.calls k1 _ _ x3_1 ((rd_T39 l0 x10_1).f0) ((rd_T39 l0 x10_1).f1) t133 false _ ?side1 ?side2 A7.out).mono ?_); (case side1 => exact cz (Kd.R_reads' HO_3.out).2.2); (case side2 => exact (Kd.R_reads' HO_3.out).2.1); rintro e w27 ⟨rfl, hb⟩; refine ⟨_, rfl, ?_⟩; have n0_ := Aside0.mk (Kd.R_below (rz HO_3.out) hb); have n1_ := Aside0.mk (blk_below (g := gb131) (o := .cells #[.string ((rd_T39 l0 x10_1).f0), .string ((rd_T39 l0 x10_1).f1)] 39 (0, 0)) (bz BK131.out) hb); have n2_ := Aside0.mk (below_step (by repeat (first | (with_reducible first | exact HB.out | apply below_alloc | apply pw_below_drewN | apply below_drew1 | refine below_set ?_ GE131.out) | exact HB.out)) hb); clear HO_3; clear BK131; clear HB; have HO_3 := n0_; have BK131 := n1_; have HB := n2_; clear n0_ n1_ n2_; (try clear hb); (try clear hb2); (try clear hk); (try clear hi); have hcz28_0 : w27.cell? ⟨gb131, 0, none⟩ = some (.string ((rd_T39 l0 x10_1).f0)) := (blk_cell BK131.out 0).trans rfl; have hcz28_1 : w27.cell? ⟨gb131, 1, none⟩ = some (.string ((rd_T39 l0 x10_1).f1)) := (blk_cell BK131.out 1).trans rfl; have hfz28_0 := blk_frozen BK131.out 0; have hfz28_1 := blk_frozen BK131.out 1) | ((with_reducible refine gate_dst (N := 32) rfl ?_); refine Kd.R_lit k39 _ 39 ?hg (N := 32) ?hd (xs := ([(⟨(rd_T39 l0 x10_1).f0, (rd_T39 l0 x10_1).f1⟩ : S39)] : List (S39))) (inner := [.string ((rd_T39 l0 x10_1).f0), .string ((rd_T39 l0 x10_1).f1)]) (ok := fun _ => True) (okp := fun _ => True) ?hr ?hp (fun _ hk => hk) trivial (Below.refl _ _) (Nat.le_refl _) (by simp) ?_; (case hd => rfl); (case hg => rfl); (case hr => first | (go_simp; done) | (go_simp; rfl)); (case hp => exact (Reps.c2 (show Kd.M k39 _ _ _ (⟨(rd_T39 l0 x10_1).f0, (rd_T39 l0 x10_1).f1⟩ : S39) [.string ((rd_T39 l0 x10_1).f0), .string ((rd_T39 l0 x10_1).f1)] from (k39_mkM _ _ _ (⟨(rd_T39 l0 x10_1).f0, (rd_T39 l0 x10_1).f1⟩ : S39) )) (Reps.none _ _))); intro v137 w29 ho30 hb hg_ hnew_; clear hg_ hnew_; (first | rw [← Ny136.out] at ho30 | (simp only [Int.reduceToNat] at ho30; rw [← Ny136.out] at ho30)); have n0_ := Aside0.mk (Kd.R_elder' (rz HO_3.out) (Kd.R_base ho30) hb); have n1_ := Aside0.mk (Kd.R_lower (Kd.R_newB (Kd.R_new' ho30 (Kd.R_lt (rz HO_3.out))) (g := gb131) (o := .cells #[.string ((rd_T39 l0 x10_1).f0), .string ((rd_T39 l0 x10_1).f1)] 39 (0, 0)) (bz BK131.out)) (below_size (by repeat (first | (with_reducible first | exact HB.out | apply below_alloc | apply pw_below_drewN | apply below_drew1 | refine below_set ?_ GE131.out) | exact HB.out)))); have n2_ := Aside0.mk (blk_below (g := gb131) (o := .cells #[.string ((rd_T39 l0 x10_1).f0), .string ((rd_T39 l0 x10_1).f1)] 39 (0, 0)) (bz BK131.out) hb); have n3_ := Aside0.mk (below_step (by repeat (first | (with_reducible first | exact HB.out | apply below_alloc | apply pw_below_drewN | apply below_drew1 | refine below_set ?_ GE131.out) | exact HB.out)) hb); clear HO_3; clear BK131; clear HB; have HO_3 := n0_; have HO138 := n1_; have BK131 := n2_; have HB := n3_; clear n0_ n1_ n2_ n3_; clear hb ho30; obtain ⟨Ao31, co31, eo31⟩ := Kd.R_slice HO138.out; subst eo31) | ((with_reducible refine gate_callee (f := 36) rfl ?_); refine goesL_ (some 33) rfl rfl Try.func36 (by kernel_rfl) rfl #[.slice Ao26 x3_1.length co26, .int .i64 t133, .slice Ao31 y136.length co31] rfl ml ?_; (with_reducible refine (label_Pair_36.calls (fun k_ => some k_ = (.slice Ao26 x3_1.length co26 : Value).ownBlock) (.slice Ao26 x3_1.length co26) x3_1 t133 (fun k_ => some k_ = (.slice Ao31 y136.length co31 : Value).ownBlock) (.slice Ao31 y136.length co31) y136 t139 w _ ?side1 ?side2 ?side3 ?side4 ?side5 A21.out).mono ?_); (case side1 => repeat (first | (with_reducible first | exact HB.out | apply below_alloc | apply pw_below_drewN | apply below_drew1 | refine below_set ?_ GE131.out) | exact HB.out)); (case side2 => exact Kd.R_tight rfl HO_3.out); (case side3 => exact fun k_ e_ => (HO_3.out.1 k_ e_.symm).2); (case side4 => exact Kd.R_tight rfl HO138.out); (case side5 => exact fun k_ e_ => (HO138.out.1 k_ e_.symm).1.2); rintro e w32 ⟨v140, rfl, ho0, hb, hkp⟩; refine ⟨_, rfl, ?_⟩; have n0_ := Aside0.mk (blk_kept (bz BK131.out) hkp (fun hs_ => Or.elim hs_ (fun e_ => (fun e_ => (Kd.R_away HO_3.out (fun _ hk => hk.1.2)) e_) e_) (fun e_ => (fun e_ => (Kd.R_away HO138.out (fun _ hk => hk.2)) e_) e_))); have n1_ := Aside0.mk (Kd.R_mono (ok' := fun k_ => k_ ≠ gb131) ho0 (fun k_ hk_ => Or.elim hk_ (fun hs_ => Or.elim hs_ (fun hs_ => fun e_ => (Kd.R_away HO_3.out (fun _ hk => hk.1.2)) (by rw [← e_]; exact hs_)) (fun hs_ => fun e_ => (Kd.R_away HO138.out (fun _ hk => hk.2)) (by rw [← e_]; exact hs_))) (fun hn_ => (Kd.freshB (g := gb131) (o := .cells #[.string ((rd_T39 l0 x10_1).f0), .string ((rd_T39 l0 x10_1).f1)] 39 (0, 0)) (bz BK131.out) k_ hn_)))); have n2_ := Aside0.mk (hb); clear BK131; clear HB; clear HO138; clear HO_3; have BK131 := n0_; have HO141 := n1_; have HB := n2_; clear n0_ n1_ n2_; (try clear hb); (try clear hkp); (try clear ho0)))
        go_roundg k1
        case measure => have := HK1.out; omega
        case rel => exact ⟨(t139), (wrap64 (x10_1 + 1)), rs, H', ⟨by have := HK1.out; omega⟩, ⟨by (with_reducible repeat (first | apply Kd.R_alloc | apply Kd.R_drewN | apply Kd.R_drew)); exact Kd.R_mono HO141.out (fun _ hk => trivial)⟩, ⟨by repeat (first | (with_reducible first | exact HB.out | apply below_alloc | apply pw_below_drewN | apply below_drew1 | refine below_set ?_ GE131.out) | exact HB.out)⟩⟩
      ·replace c6 := Bool.eq_false_iff.mpr c6
       subst c6
       have H1 : (label_Of.l0 k1 x3_1 l0 (l0.length : Int) (wrap64 (x10_1 + 1))) = some r := by rw [if_neg (show ¬ (false = true) by decide)] at H; exact H
       clear H
       have H := H1
       clear H1
       have H' := Aside0.mk H
       clear H
       have p130 : 0 ≤ (x10_1 : Int) := od
       have q130 : x10_1 < (l0.length : Int) := od
       obtain ⟨ad130, e130, hx130_0, hx130_1⟩ := at_T39 HR0.out x10_1 p130 q130
       cases e130
       replace hx130_0 := cu HB.out hx130_0
       replace hx130_1 := cu HB.out hx130_1
       replace p130 := eq_true p130
       replace q130 := eq_true q130
       go_wp2_with (first | ((with_reducible refine gate_dst (N := 5) rfl ?_); refine box_event ?hg (N := 5) ?hd (cs := #[.string (⟨#[]⟩ : ByteArray), .string (⟨#[]⟩ : ByteArray)]) (t := 39) ?hr ?_; (case hd => rfl); (case hg => rfl); (case hr => first | (go_simp; done) | (go_simp; rfl)); intro gb131 hg w33 hbox hb; have n0_ := Aside0.mk (Kd.R_below (Kd.R_elderB (rz HO_3.out) gb131 (Nat.le_of_eq hg.symm)) hb); have n1_ := Aside0.mk (below_step bl hb); have n2_ := Aside0.mk (hbox); have n3_ := Aside0.mk ((by rw [hg]; exact (below_size bl) : w.heap.size ≤ gb131)); have n4_ := Aside0.mk ((by rw [hg]; exact (below_size bl) : w.heap.size ≤ gb131)); clear HO_3; clear HB; have HO_3 := n0_; have HB := n1_; have BK131 := n2_; have GW131 := n3_; have GE131 := n4_; clear n0_ n1_ n2_ n3_ n4_; clear hb hbox hg; have hcz34_0 : w33.cell? ⟨gb131, 0, none⟩ = some (.string (⟨#[]⟩ : ByteArray)) := (blk_cell BK131.out 0).trans rfl; have hcz34_1 : w33.cell? ⟨gb131, 1, none⟩ = some (.string (⟨#[]⟩ : ByteArray)) := (blk_cell BK131.out 1).trans rfl; have hfz34_0 := blk_frozen BK131.out 0; have hfz34_1 := blk_frozen BK131.out 1) | ((with_reducible refine gate_callee (f := 21) rfl ?_); refine goesL_ (some 16) rfl rfl Try.func21 (by kernel_rfl) rfl #[.string ((rd_T39 l0 x10_1).f0)] rfl ml ?_; (with_reducible refine (label_Name.calls k1 ((rd_T39 l0 x10_1).f0) false _ A5.out).mono ?_); rintro e w35 ⟨rfl, hb⟩; refine ⟨_, rfl, ?_⟩; have n0_ := Aside0.mk (Kd.R_below (by (with_reducible repeat (first | apply Kd.R_alloc | apply Kd.R_drewN | apply Kd.R_drew)); exact (Kd.R_mono (Kd.R_far (p := ⟨gb131, 1, none⟩) (Kd.R_far (p := ⟨gb131, 0, none⟩) (Kd.R_mono HO_3.out (fun k_ hk => (⟨hk, hk.2⟩ : _ ∧ k_ ≠ gb131))) (fun _ hk => hk.2) (.string ((rd_T39 l0 x10_1).f0))) (fun _ hk => hk.2) (.string ((rd_T39 l0 x10_1).f1))) (fun _ h_ => h_.1))) hb); have n1_ := Aside0.mk (blk_below (g := gb131) (o := .cells #[.string ((rd_T39 l0 x10_1).f0), .string ((rd_T39 l0 x10_1).f1)] 39 (0, 0)) (by (with_reducible repeat (first | refine blk_drewN ?_ _ | refine blk_drew ?_ | refine blk_alloc ?_ _)); refine blk_put (cs := #[.string ((rd_T39 l0 x10_1).f0), .string (⟨#[]⟩ : ByteArray)]) ?_ 1 _ rfl; (with_reducible repeat (first | refine blk_drewN ?_ _ | refine blk_drew ?_ | refine blk_alloc ?_ _)); refine blk_put (cs := #[.string (⟨#[]⟩ : ByteArray), .string (⟨#[]⟩ : ByteArray)]) ?_ 0 _ rfl; (with_reducible repeat (first | refine blk_drewN ?_ _ | refine blk_drew ?_ | refine blk_alloc ?_ _)); exact BK131.out) hb); have n2_ := Aside0.mk (below_step (by repeat (first | (with_reducible first | exact HB.out | apply below_alloc | apply pw_below_drewN | apply below_drew1 | refine below_set ?_ GE131.out) | exact HB.out)) hb); clear HO_3; clear BK131; clear HB; have HO_3 := n0_; have BK131 := n1_; have HB := n2_; clear n0_ n1_ n2_; (try clear hb); (try clear hb2); (try clear hk); (try clear hi)))
       go_roundg k1
       case measure => have := HK1.out; omega
       case rel => exact ⟨(x3_1), (wrap64 (x10_1 + 1)), rs, H', ⟨by have := HK1.out; omega⟩, ⟨by (with_reducible repeat (first | apply Kd.R_alloc | apply Kd.R_drewN | apply Kd.R_drew)); exact Kd.R_mono HO_3.out (fun _ hk => trivial)⟩, ⟨by repeat (first | (with_reducible first | exact HB.out | apply below_alloc | apply pw_below_drewN | apply below_drew1 | refine below_set ?_ GE131.out) | exact HB.out)⟩⟩
     ·rw [if_neg c4] at H
      exact absurd H (by simp)
    ·rw [if_neg c3] at H
     exact absurd H (by simp)
   ·rw [if_neg c2] at H
    have c2b0 : decide (x10_1 < (l0.length : Int)) = false := decide_eq_false c2
    clear c2
    obtain rfl := Option.some.inj H
    go_wp2
    go_ret
    exact ⟨_, by first | rfl | (simp [errW_none, errW_some] <;> rfl) | (simp [*, errW_none, errW_some] <;> rfl), by (with_reducible repeat (first | apply Kd.R_alloc | apply Kd.R_drewN | apply Kd.R_drew)); exact HO_3.out, bl⟩

/-! ### label_Pair_29: function 29 -/
section
open Go.Lib Go.Shelf Go.Proofs
variable {P : Program}
def label_Pair_29.ren : Go.Shelf.Ren := ⟨fun | 35 => 29 | n => n, fun | 0 => 0 | 3 => 3 | 4 => 4 | 22 => 26 | 23 => 39 | n => n, fun n => n⟩
theorem label_Pair_29.lays : SlLaysE0.n35 Try.prog label_Pair_29.ren := {
 mixed := by kernel_rfl
 f35 := ⟨ "slices.Reverse[[]archivist/label.Pair,archivist/label.Pair]", by decide, Try.func29.trans (congrArg some (by kernel_rfl))⟩
 t0 := Try.underlying0
 a0 := Try.isAgg0
 z0 := Try.sizeOf0
 v0 := Try.zeroValue0
 t3 := Try.underlying3
 a3 := Try.isAgg3
 z3 := Try.sizeOf3
 v3 := Try.zeroValue3
 t4 := Try.underlying4
 a4 := Try.isAgg4
 z4 := Try.sizeOf4
 v4 := Try.zeroValue4
 t22 := Try.underlying26
 a22 := Try.isAgg26
 z22 := Try.sizeOf26
 v22 := Try.zeroValue26 }
instance label_Pair_29.inh : Inhabited S39 := ⟨⟨ByteArray.empty, ByteArray.empty⟩⟩
theorem label_Pair_29.enc_at : ∀ (l : List S39) (t : Nat), t < l.length * 2 → (l.flatMap label_Pair_36.enc)[t]! = (label_Pair_36.enc l.toArray[t / 2]!)[t % 2]!
 | [], t, h => by simp at h
 | x :: l, t, h => by
  have e : (x :: l).flatMap label_Pair_36.enc = .string x.f0 :: .string x.f1 :: l.flatMap label_Pair_36.enc := by rw [List.flatMap_cons]; rfl
  rw [e]
  match t, h with
  | 0, _ => rfl
  | 1, _ => rfl
  | t + 2, h =>
   have ih := label_Pair_29.enc_at l t (by simp only [List.length_cons] at h; omega)
   rw [show (t + 2) / 2 = t / 2 + 1 by omega, show (t + 2) % 2 = t % 2 by omega]
   simp only [List.getElem!_toArray, List.getElem!_cons_succ] at ih ⊢
   exact ih
theorem label_Pair_29.flat (l : List S39) : Go.Sort.flatK label_Pair_36.enc 2 l.toArray = (l.flatMap label_Pair_36.enc).toArray := by
 have hl := label_Pair_36.enc_length l
 refine Go.Sort.ext_get! (by simp [hl]) fun t ht => ?_
 rw [Go.Sort.size_flatK, List.size_toArray] at ht
 rw [Go.Sort.get_flatK _ _ _ _ (by rw [List.size_toArray]; exact ht), ← label_Pair_29.enc_at l t ht, List.getElem!_toArray]
theorem label_Pair_29.setMany_all (F : Array Value) (vs : List Value) (h : vs.length = F.size) : Go.Sort.setMany F 0 vs = vs.toArray := by
 refine Go.Sort.ext_get! (by simp [h]) fun t ht => ?_
 rw [Go.Sort.size_setMany] at ht
 rw [Go.Sort.get_setMany _ _ _ _ ht, if_pos ⟨Nat.zero_le _, by omega⟩, Nat.sub_zero, List.getElem!_toArray]
def label_Pair_29.f (_k : Nat) (l0 : List S39) : Option (List S39) := if l0.length < 4398046511104 then some l0.reverse else none
theorem label_Pair_29.mono : ∀ a0 k, LeO (label_Pair_29.f k a0) (label_Pair_29.f (k + 1) a0) := fun _ _ => LeO.refl _
set_option maxHeartbeats 8000000 in
set_option maxRecDepth 100000 in
theorem label_Pair_29.calls (k : Nat) (P0_ : Nat → Prop) (u9000_ : Value) (l0 : List (S39)) (r : List (S39)) (w0 w : World) (hB : Below w0.heap.size w0 w) (ho0 : Kd.R k39 39 w w0.heap.size P0_ u9000_ l0) (h : label_Pair_29.f k l0 = some r) :
  Calls Try.prog 29 #[u9000_] w fun e w' => e = .returned (.tuple #[]) ∧ Kd.R k39 39 w' w0.heap.size (fun k_ => (P0_ k_ ∨ w.heap.size ≤ k_)) u9000_ r ∧ Below w0.heap.size w0 w' ∧ Kept w w' (fun k_ => P0_ k_) := by
 unfold label_Pair_29.f at h
 split at h
 case isFalse => simp at h
 rename_i hc
 obtain rfl := Option.some.inj h
 clear h
 have hs0 := hB.size
 have hR := ho0
 obtain ⟨hk0, inner, hown, hreps⟩ := ho0
 rw [show k39.sz = 2 from rfl] at hown hreps
 obtain rfl := label_Pair_36.reps_enc hreps
 rcases hown.2 with ⟨rfl, hz⟩ | ⟨g, cap, cur, rfl, hg, hh, hn, hcap, hcs, hct⟩
 ·obtain rfl : l0 = [] := List.eq_nil_of_length_eq_zero hz
  refine (AnyQ.slices_Reverse_empty (ρ := label_Pair_29.ren) label_Pair_29.lays _ _ w).mono ?_
  rintro e w' ⟨rfl, rfl⟩
  exact ⟨rfl, Kd.R_mono hR (fun _ h => .inl h), hB, Kept.refl _ _⟩
 ·have p0 : P0_ g := hk0 g rfl
  have hlen := label_Pair_36.enc_length l0
  have hlenr := label_Pair_36.enc_length l0.reverse
  rw [List.length_reverse] at hlenr
  have hsz : ∀ x, (label_Pair_36.enc x).length = 2 := fun _ => rfl
  have hflat : Go.Sort.HoldsK label_Pair_36.enc 2 w g 0 l0.toArray := by
   intro j hj
   rw [label_Pair_29.flat] at hj ⊢
   rw [List.size_toArray, hlen] at hj
   have h1 : cur.toList[j]? = (l0.flatMap label_Pair_36.enc)[j]? := by
    rw [← hct, List.getElem?_take, if_pos (by omega)]
   refine ⟨?_, by simp [World.frozen?, hh]⟩
   rw [Nat.zero_add]
   have hjl : j < (l0.flatMap label_Pair_36.enc).length := by omega
   rw [List.getElem?_eq_getElem hjl, Array.getElem?_toList] at h1
   simp only [World.cell?, hh, List.getElem!_toArray]
   rw [getElem!_pos _ j hjl]
   simpa using h1
  have hC := AnyQ.slices_Reverse (ρ := label_Pair_29.ren) label_Pair_29.lays 2 Try.isAgg39 Try.sizeOf39 label_Pair_36.enc hsz (fun x v hv => label_Pair_36.enc_one [x] v (by simpa using hv)) g 0 cap l0.toArray w hflat (by rw [List.size_toArray]; omega)
  refine hC.mono ?_
  rintro e w' ⟨rfl, n, rfl⟩
  have hA : Go.Sort.putRowK label_Pair_36.enc 2 (Go.Sort.ahead w n) g 0 l0.toArray.reverse = (w.drewN n).setCells g 0 (l0.reverse.flatMap label_Pair_36.enc) := by
   have hH2 := Go.Sort.holdsK_ahead (enc := label_Pair_36.enc) (k := 2) w n g 0 l0.toArray hflat
   have h1 := Go.Sort.putRowK_self (enc := label_Pair_36.enc) (k := 2) (Go.Sort.ahead w n) g 0 l0.toArray hH2
   have h2 := Go.Sort.setCells_putRow (Go.Sort.ahead w n) g 0 (l0.reverse.flatMap label_Pair_36.enc) 0 (Go.Sort.flatK label_Pair_36.enc 2 l0.toArray) (by rw [Go.Sort.size_flatK, List.size_toArray]; omega)
   rw [label_Pair_29.setMany_all _ _ (by rw [Go.Sort.size_flatK, List.size_toArray]; omega)] at h2
   have h3 : Go.Sort.putRow id (Go.Sort.ahead w n) g 0 (Go.Sort.flatK label_Pair_36.enc 2 l0.toArray) = Go.Sort.ahead w n := h1
   rw [h3] at h2
   unfold Go.Sort.putRowK
   rw [show l0.toArray.reverse = l0.reverse.toArray by simp, label_Pair_29.flat]
   exact h2.symm
  rw [hA]
  have hhn : (w.drewN n).heap[g]? = some (.cells cur 39 (0, 0)) := hh
  have h1 : ∀ v ∈ l0.reverse.flatMap label_Pair_36.enc, v.oneCell' = true := label_Pair_36.enc_one _
  have e1 := label_Pair_36.setCells_seg hhn 0 (l0.reverse.flatMap label_Pair_36.enc) (by omega) h1
  have hg1 : ((w.drewN n).setCells g 0 (l0.reverse.flatMap label_Pair_36.enc)).heap[g]? = some (.cells (label_Pair_36.seg cur.toList 0 (l0.reverse.flatMap label_Pair_36.enc)).toArray 39 (0, 0)) := by rw [e1]; exact setRow_heap _ g cur _ 39 _ hhn
  refine ⟨rfl, label_Pair_36.R_made (.inl p0) hg hg1 (by rw [List.length_reverse]) hn hcap ?_ ?_, ?_, ?_⟩
  ·rw [List.size_toArray, label_Pair_36.seg_len _ _ _ (by have h9 : cur.toList.length = cur.size := Array.length_toList; omega), Array.length_toList, hcs]
  ·rw [List.toList_toArray]
   simp only [label_Pair_36.seg, List.take_zero, List.nil_append]
   exact List.take_left' (by omega)
  ·exact label_Pair_36.below_setCells' hg _ _ (pw_below_drewN hB n)
  ·exact label_Pair_36.kept_setCells (.inl p0) _ _ (Kept.drewN (Kept.refl w _) n)
end

/-! ### logfmt_Of: function 14 -/
def logfmt_Of.f (k : Nat) (a0 : ByteArray) : Option ((List (S39))) := (logfmt_All.f k a0).bind fun t146 => ((label_Pair_29.f k t146).bind fun t149 => ((label_Of.f k t149).bind fun t150 => (if 0 ≤ (mn (t150.length : Int) 16) then (if (mn (t150.length : Int) 16) ≤ (t150.length : Int) then (some (t150.take ((mn (t150.length : Int) 16) : Int).toNat)) else (none)) else (none))))
theorem logfmt_Of.mono : ∀ a0 k, LeO (logfmt_Of.f k a0) (logfmt_Of.f (k + 1) a0) := by
 intro a0 k
 unfold logfmt_Of.f
 repeat' first
   | (with_reducible exact label_Of.mono _ _)
   | (with_reducible exact label_Pair_29.mono _ _)
   | (with_reducible exact logfmt_All.mono _ _)
   | (with_reducible exact LeO.refl _)
   | (with_reducible exact LeO.none _)
   | (with_reducible refine LeO.ite ?_ ?_)
   | (with_reducible refine LeO.bind ?_ (fun _ => ?_))
   | exact label_Of.mono _ _
   | exact label_Pair_29.mono _ _
   | exact logfmt_All.mono _ _
   | exact LeO.none _
   | refine LeO.ite ?_ ?_
   | refine LeO.bind ?_ (fun _ => ?_)
set_option maxHeartbeats 8000000 in
set_option maxRecDepth 100000 in
theorem logfmt_Of.calls (k : Nat) (a0 : ByteArray) (r : List (S39)) (w : World) (h : logfmt_Of.f k a0 = some r) :
  Calls Try.prog 14 #[.string a0] w fun e w' => ∃ v0_ : Value, e = .returned (v0_) ∧ Kd.R k39 39 w' w.heap.size (fun _ => True) v0_ r ∧ Below w.heap.size w w' := by
 have HB := Aside0.mk (Below.refl w.heap.size w)
 have H : ((logfmt_All.f k a0).bind fun t146 => ((label_Pair_29.f k t146).bind fun t149 => ((label_Of.f k t149).bind fun t150 => (if 0 ≤ (mn (t150.length : Int) 16) then (if (mn (t150.length : Int) 16) ≤ (t150.length : Int) then (some (t150.take ((mn (t150.length : Int) 16) : Int).toNat)) else (none)) else (none))))) = some r := h
 clear h
 replace H := Option.bind_eq_some_iff.mp H
 obtain ⟨t146, A20, H⟩ := H
 replace H : ((label_Pair_29.f k t146).bind fun t149 => ((label_Of.f k t149).bind fun t150 => (if 0 ≤ (mn (t150.length : Int) 16) then (if (mn (t150.length : Int) 16) ≤ (t150.length : Int) then (some (t150.take ((mn (t150.length : Int) 16) : Int).toNat)) else (none)) else (none)))) = some r := H
 have A2 := Aside0.mk A20
 clear A20
 replace H := Option.bind_eq_some_iff.mp H
 obtain ⟨t149, A30, H⟩ := H
 replace H : ((label_Of.f k t149).bind fun t150 => (if 0 ≤ (mn (t150.length : Int) 16) then (if (mn (t150.length : Int) 16) ≤ (t150.length : Int) then (some (t150.take ((mn (t150.length : Int) 16) : Int).toNat)) else (none)) else (none))) = some r := H
 have A3 := Aside0.mk A30
 clear A30
 replace H := Option.bind_eq_some_iff.mp H
 obtain ⟨t150, A40, H⟩ := H
 replace H : (if 0 ≤ (mn (t150.length : Int) 16) then (if (mn (t150.length : Int) 16) ≤ (t150.length : Int) then (some (t150.take ((mn (t150.length : Int) 16) : Int).toNat)) else (none)) else (none)) = some r := H
 have A4 := Aside0.mk A40
 clear A40
 obtain ⟨ji5, hji5⟩ : ∃ j_ : Int, (mn (t150.length : Int) 16) = j_ := ⟨_, rfl⟩
 replace H : (if 0 ≤ (ji5) then (if (ji5) ≤ (t150.length : Int) then (some (t150.take ((ji5) : Int).toNat)) else (none)) else (none)) = some r := by first | (rw [hji5] at H; exact H) | (simp only [hji5] at H ⊢; exact H)
 (try rw [hji5] at A2)
 (try rw [hji5] at A3)
 (try rw [hji5] at A4)
 (try (have hji5h : ji5 ≤ 16 := by (rw [← hji5]; unfold mn; (repeat' split) <;> omega)))
 (try (have hji5g : ji5 ≤ 64 := by omega))
 (try (have hji5l : 0 ≤ ji5 := by (rw [← hji5]; unfold mn; (repeat' split) <;> omega)))
 (try (have hji5m : 0 ≤ ji5 := by omega))
 have hji5_ : (if 16 < (t150.length : Int) then 16 else (t150.length : Int)) = ji5 := hji5
 obtain ⟨lt5t150, hlt5t150⟩ : ∃ q_, (t150.take ((ji5) : Int).toNat) = q_ := ⟨_, rfl⟩
 replace H : (if 0 ≤ (ji5) then (if (ji5) ≤ (t150.length : Int) then (some lt5t150) else (none)) else (none)) = some r := by first | (rw [hlt5t150] at H; exact H) | (simp only [hlt5t150] at H ⊢; exact H)
 by_cases c6 : 0 ≤ (ji5)
 ·rw [if_pos c6] at H
  have c6b0 := eq_true c6
  have c6b1 : decide (0 ≤ (ji5)) = true := decide_eq_true c6
  clear c6
  by_cases c7 : (ji5) ≤ (t150.length : Int)
  ·rw [if_pos c7] at H
   have c7b0 := eq_true c7
   have c7b1 : decide ((ji5) ≤ (t150.length : Int)) = true := decide_eq_true c7
   clear c7
   obtain ⟨y153, hy153⟩ : ∃ y_ : List (S39), y_ = lt5t150 := ⟨_, rfl⟩
   replace H : (some y153) = some r := by first | (rw [hy153]; with_reducible exact H) | (have H2_ := (Option.bind_some _ _).symm.trans H; rw [hy153]; with_reducible exact H2_) | (have H2_ := (Option.bind_some _ _).symm.trans H; with_reducible exact H2_) | with_reducible exact H | (rw [hy153]; exact H) | exact H
   have Ny153 := Aside0.mk hy153
   clear hy153
   obtain rfl := Option.some.inj H
   go_enter Try.func14, Try.ntmps14
   go_wp2_with (first | ((with_reducible refine gate_callee (f := 12) rfl ?_); refine goesL_ (some 6) rfl rfl Try.func12 (by kernel_rfl) rfl #[.string a0] rfl ml ?_; (with_reducible refine (logfmt_All.calls k a0 t146 _ A2.out).mono ?_); rintro e w8 ⟨v147, rfl, ho0, hb⟩; refine ⟨_, rfl, ?_⟩; have n0_ := Aside0.mk (Kd.R_lower ho0 (below_size bl)); have n1_ := Aside0.mk (below_step bl hb); clear HB; have HO148 := n0_; have HB := n1_; clear n0_ n1_; (try clear hb); (try clear hb2); (try clear hk); (try clear hi); (try clear ho0); obtain ⟨Ao9, co9, eo9⟩ := Kd.R_slice HO148.out; subst eo9) | ((with_reducible refine gate_callee (f := 29) rfl ?_); refine goesL_ (some 8) rfl rfl Try.func29 (by kernel_rfl) rfl #[.slice Ao9 t146.length co9] rfl ml ?_; (with_reducible refine (label_Pair_29.calls k (fun k_ => some k_ = (.slice Ao9 t146.length co9 : Value).ownBlock) (.slice Ao9 t146.length co9) t146 t149 w _ ?side1 ?side2 A3.out).mono ?_); (case side1 => repeat (first | (with_reducible first | exact HB.out | apply below_alloc | apply pw_below_drewN | apply below_drew1) | exact HB.out)); (case side2 => exact Kd.R_tight rfl HO148.out); rintro e w10 ⟨rfl, hy0, hb, hkp⟩; refine ⟨_, rfl, ?_⟩; have n0_ := Aside0.mk (Kd.R_reok rfl hy0 (fun k_ e_ => HO148.out.1 k_ e_)); have n1_ := Aside0.mk (hb); clear HO148; clear HB; have HO148 := n0_; have HB := n1_; clear n0_ n1_; (try clear hb); (try clear hkp); (try clear hy0); have hl9 := (Kd.R_reads' HO148.out).1; rw [hl9] at HO148; (try rw [hl9]); clear hl9) | ((with_reducible refine gate_callee (f := 23) rfl ?_); refine goesL_ (some 10) rfl rfl Try.func23 (by kernel_rfl) rfl #[.slice Ao9 t149.length co9] rfl (by (try simp only [List.map_toArray, List.map_cons, List.map_nil]); first | done | (rw [show t149.length = t146.length from (Kd.R_reads' HO148.out).1.symm] <;> rfl) | rfl | (simp only [List.length_drop, List.length_take]; rfl)) ?_; (with_reducible refine (label_Of.calls k _ _ t149 t150 _ ?side1 ?side2 A4.out).mono ?_); (case side1 => exact cz (Kd.R_reads' HO148.out).2.2); (case side2 => (try rw [show t149.length = t146.length from (Kd.R_reads' HO148.out).1.symm]); exact (Kd.R_reads' HO148.out).2.1); rintro e w11 ⟨v151, rfl, ho0, hb⟩; refine ⟨_, rfl, ?_⟩; have n0_ := Aside0.mk (Kd.R_elder' (rz HO148.out) (Kd.R_base ho0) hb); have n1_ := Aside0.mk (Kd.R_lower (Kd.R_new' ho0 (Kd.R_lt (rz HO148.out))) (below_size bl)); have n2_ := Aside0.mk (below_step bl hb); clear HO148; clear HB; have HO148 := n0_; have HO152 := n1_; have HB := n2_; clear n0_ n1_ n2_; (try clear hb); (try clear hb2); (try clear hk); (try clear hi); (try clear ho0); obtain ⟨Ao12, co12, eo12⟩ := Kd.R_slice HO152.out; subst eo12; have q13 : ((ji5) : Int) ≤ ((t150.length : Int) : Int) := od; obtain ⟨i013, hi013, _, hsz13, _⟩ := info_parts info39; have hcut13 := cut_to (P := Try.prog) 32 39 .i64 Try.underlying32 hi013 Ao12 t150.length co12 (ji5) (od) q13 (Kd.R_reads' HO152.out).2.1; have hr13 := Kd.R_take (m := ((ji5) : Int).toNat) HO152.out (by omega); have hy13 : y153.length = ((ji5) : Int).toNat := (by rw [Ny153.out, ← hlt5t150, List.length_take]; omega); rw [hlt5t150, ← Ny153.out] at hr13; rw [← hy13] at hr13 hcut13; clear hy13 hi013 hsz13 HO152; have HO155 := Aside0.mk hr13; clear hr13; replace q13 := eq_true q13))
   go_ret
   exact ⟨_, by first | rfl | (simp [errW_none, errW_some] <;> rfl) | (simp only [← hji5]; first | rfl | (simp [errW_none, errW_some] <;> rfl)) | (simp [*, errW_none, errW_some] <;> rfl), by (with_reducible repeat (first | apply Kd.R_alloc | apply Kd.R_drewN | apply Kd.R_drew)); exact Kd.R_mono HO155.out (fun _ hk => trivial), bl⟩
  ·rw [if_neg c7] at H
   exact absurd H (by simp)
 ·rw [if_neg c6] at H
  exact absurd H (by simp)

end Go.Proofs.Ytielpefbgdilaaa.X
