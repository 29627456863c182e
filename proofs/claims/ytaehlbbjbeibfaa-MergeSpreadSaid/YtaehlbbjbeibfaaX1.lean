-- Laid by xprint.py, a program of this session's, out of the translation.
import Derived.Test.YtaehlbbjbeibfaaX0
namespace Go.Proofs.Ytaehlbbjbeibfaa.X
open Go.RowKit Go.Proofs.YtaehlbbjbeibfaaW.PrintWords Go.Proofs.YtaehlbbjbeibfaaW.PrintLast Go.Proofs.YtaehlbbjbeibfaaW.PrintMore
attribute [local go_sem] max2_int min2_int max_two min_two max_three min_three max_four min_four x_isSome x_str_gtr x_str_leq x_str_geq   -- for this text's walks alone
set_option linter.unusedVariables false
set_option linter.unusedSimpArgs false

/-! ### cmp_Or_int: function 49 -/
def cmp_Or_int.l0 : Nat → Int → List Int → Int → Int → Option (Int)
 | 0, _, _, _, _ => none
 | k + 1, x3, x6, x7, x8 => if x8 < x7 then (if 0 ≤ x8 then (if x8 < (x6.length : Int) then (if (rd x6 x8) = x3 then (cmp_Or_int.l0 k x3 x6 x7 (wrap64 (x8 + 1))) else (some (rd x6 x8))) else (none)) else (none)) else (some x3)
def cmp_Or_int.f (k : Nat) (l0 : List Int) : Option (Int) := cmp_Or_int.l0 k 0 l0 (l0.length : Int) 0
theorem cmp_Or_int.mono_l : ∀ k, (∀ y0 y1 y2 y3, LeO (cmp_Or_int.l0 k y0 y1 y2 y3) (cmp_Or_int.l0 (k + 1) y0 y1 y2 y3))
 | 0 => fun _ _ _ _ r h => by simp [cmp_Or_int.l0] at h
 | k + 1 => by
  have ih0 := cmp_Or_int.mono_l k
  ·intro y0 y1 y2 y3
   unfold cmp_Or_int.l0
   exact mo
theorem cmp_Or_int.mono : ∀ a0 k, LeO (cmp_Or_int.f k a0) (cmp_Or_int.f (k + 1) a0) := by
 intro a0 k
 have ih0 := cmp_Or_int.mono_l k
 unfold cmp_Or_int.f
 exact mo
set_option maxHeartbeats 8000000 in
set_option maxRecDepth 100000 in
theorem cmp_Or_int.calls (k : Nat) (A0 : Option Addr) (c0 : Nat) (l0 : List Int) (r : Int) (w : World) (hr0 : Kd.C (Kd.int .i64) w A0 l0.length l0) (hc0 : l0.length ≤ c0) (h : cmp_Or_int.f k l0 = some r) :
  Calls Try.prog 49 #[.slice A0 l0.length c0] w fun e w' => e = .returned (.int .i64 r) ∧ Drawn0 w w' := by
 have HR0 := Aside0.mk hr0; have HC0 := Aside0.mk hc0; clear hr0 hc0; have H : (cmp_Or_int.l0 k 0 l0 (l0.length : Int) 0) = some r := h; clear h; have H' := Aside0.mk H; clear H; go_enter Try.func49, Try.ntmps49
 go_wp2
 go_loopg [8] k (fun kq v8 w' => ∃ (x8_1 : Int), v8 = .int .i64 x8_1 ∧ Aside0 (cmp_Or_int.l0 kq 0 l0 (l0.length : Int) x8_1 = some r) ∧ Aside0 (kq ≤ k) ∧ Drawn0 w w')
 case atStart => exact ⟨(0), rs, H', ⟨Nat.le_refl _⟩, zbs⟩
 case round =>
  clear H'; obtain ⟨x8_1, rfl, HA, HK1, ⟨m1, rfl⟩⟩ := hrel; cases gk with
  | zero => exact absurd HA.out (by simp [cmp_Or_int.l0])
  | succ k1 =>
   have H := HA.out; clear HA; simp only [cmp_Or_int.l0] at H; by_cases c2 : x8_1 < (l0.length : Int)
   ·rw [if_pos c2] at H; have c2b0 := decide_eq_true c2; clear c2; obtain ⟨c3, H⟩ := ip H; have c3b0 := decide_eq_true c3; clear c3; obtain ⟨c4, H⟩ := ip H; have c4b0 := decide_eq_true c4; clear c4; by_cases c5 : (rd l0 x8_1) = 0
    ·rw [if_pos c5] at H; have c5b0 : ((rd l0 x8_1) == 0) = true := beq_iff_eq.mpr c5; have c5b1 : ((rd l0 x8_1) != 0) = false := bne_eq_false_iff_eq.mpr c5; clear c5; have H' := Aside0.mk H; clear H; have p101 : 0 ≤ (x8_1 : Int) := od; have q101 : x8_1 < (l0.length : Int) := od; obtain ⟨ad101, e101, hx101_0⟩ := Kd.at_int HR0.out x8_1 p101 q101; cases e101; replace p101 := eq_true p101; replace q101 := eq_true q101; go_wp2
     go_roundg k1
     case measure => have := HK1.out; omega
     case rel => exact ⟨(wrap64 (x8_1 + 1)), rs, H', ⟨zbp⟩, zbs⟩
    ·rw [if_neg c5] at H; have c5b0 : ((rd l0 x8_1) == 0) = false := beq_eq_false_iff_ne.mpr c5; have c5b1 : ((rd l0 x8_1) != 0) = true := bne_iff_ne.mpr c5; obtain rfl := Option.some.inj H; have p101 : 0 ≤ (x8_1 : Int) := od; have q101 : x8_1 < (l0.length : Int) := od; obtain ⟨ad101, e101, hx101_0⟩ := Kd.at_int HR0.out x8_1 p101 q101; cases e101; replace p101 := eq_true p101; replace q101 := eq_true q101; go_wp2
     go_ret
     exact ⟨rs, dr⟩
   ·rw [if_neg c2] at H; have c2b0 : decide (x8_1 < (l0.length : Int)) = false := decide_eq_false c2; clear c2; obtain rfl := Option.some.inj H; go_wp2
    go_ret
    exact ⟨rs, dr⟩

/-! ### cmp_isNaN_int64: function 60 -/
def cmp_isNaN_int64.f (a0 : Int) : Option (Bool) := some (a0 != a0)
set_option maxHeartbeats 8000000 in
set_option maxRecDepth 100000 in
theorem cmp_isNaN_int64.calls (a0 : Int) (r : Bool) (w : World) (h : cmp_isNaN_int64.f a0 = some r) :
  Calls Try.prog 60 #[.int .i64 a0] w fun e w' => e = .returned (.bool r) ∧ Drawn0 w w' := by
 have H : (some (a0 != a0)) = some r := h; clear h; obtain rfl := Option.some.inj H; go_enter Try.func60, Try.ntmps60
 go_wp2
 go_ret
 exact ⟨rs, dr⟩

/-! ### cmp_Compare_int64: function 50 -/
def cmp_Compare_int64.f (a0 : Int) (a1 : Int) : Option (Int) := (cmp_isNaN_int64.f a0).bind fun t102 => ((cmp_isNaN_int64.f a1).bind fun t103 => (if t102 = true then (if t103 = true then (some 0) else (some (-1))) else (if t103 = true then (some 1) else (if a0 < a1 then (some (-1)) else (if a0 > a1 then (some 1) else (some 0))))))
theorem cmp_Compare_int64.lf {p_ : Prop} (h : p_ := by
 go_enter Try.func50, Try.ntmps50
 go_wp2_with (first | ((with_reducible refine gate_callee (f := 60) rfl ?_); refine goesL_ (some 8) rfl rfl Try.func60 (by kernel_rfl) rfl #[.int .i64 a0] rfl ml ?_; (with_reducible refine (cmp_isNaN_int64.calls a0 false _ A3.out).mono ?_); rintro e w' ⟨rfl, ⟨nd, rfl⟩⟩; refine ⟨_, rfl, ?_⟩) | ((with_reducible refine gate_callee (f := 60) rfl ?_); refine goesL_ (some 8) rfl rfl Try.func60 (by kernel_rfl) rfl #[.int .i64 a0] rfl ml ?_; (with_reducible refine (cmp_isNaN_int64.calls a0 true _ A3.out).mono ?_); rintro e w' ⟨rfl, ⟨nd, rfl⟩⟩; refine ⟨_, rfl, ?_⟩) | ((with_reducible refine gate_callee (f := 60) rfl ?_); refine goesL_ (some 10) rfl rfl Try.func60 (by kernel_rfl) rfl #[.int .i64 a1] rfl ml ?_; (with_reducible refine (cmp_isNaN_int64.calls a1 false _ A4.out).mono ?_); rintro e w' ⟨rfl, ⟨nd, rfl⟩⟩; refine ⟨_, rfl, ?_⟩) | ((with_reducible refine gate_callee (f := 60) rfl ?_); refine goesL_ (some 10) rfl rfl Try.func60 (by kernel_rfl) rfl #[.int .i64 a1] rfl ml ?_; (with_reducible refine (cmp_isNaN_int64.calls a1 true _ A4.out).mono ?_); rintro e w' ⟨rfl, ⟨nd, rfl⟩⟩; refine ⟨_, rfl, ?_⟩))
 go_ret
 exact ⟨rs, dr⟩) : p_ := h
set_option maxHeartbeats 8000000 in
set_option maxRecDepth 100000 in
theorem cmp_Compare_int64.calls (a0 : Int) (a1 : Int) (r : Int) (w : World) (h : cmp_Compare_int64.f a0 a1 = some r) :
  Calls Try.prog 50 #[.int .i64 a0, .int .i64 a1] w fun e w' => e = .returned (.int .i64 r) ∧ Drawn0 w w' := by
 have H : ((cmp_isNaN_int64.f a0).bind fun t102 => ((cmp_isNaN_int64.f a1).bind fun t103 => (if t102 = true then (if t103 = true then (some 0) else (some (-1))) else (if t103 = true then (some 1) else (if a0 < a1 then (some (-1)) else (if a0 > a1 then (some 1) else (some 0))))))) = some r := h
 clear h
 obtain ⟨t102, A3, H⟩ := be H
 obtain ⟨t103, A4, H⟩ := be H
 by_cases c5 : t102 = true
 ·subst c5
  rw [if_pos rfl] at H
  by_cases c6 : t103 = true
  ·subst c6
   rw [if_pos rfl] at H
   obtain rfl := Option.some.inj H
   exact cmp_Compare_int64.lf
  ·replace c6 := Bool.eq_false_iff.mpr c6
   subst c6
   rw [if_neg nf] at H
   obtain rfl := Option.some.inj H
   exact cmp_Compare_int64.lf
 ·replace c5 := Bool.eq_false_iff.mpr c5
  subst c5
  rw [if_neg nf] at H
  by_cases c7 : t103 = true
  ·subst c7
   rw [if_pos rfl] at H
   obtain rfl := Option.some.inj H
   exact cmp_Compare_int64.lf
  ·replace c7 := Bool.eq_false_iff.mpr c7
   subst c7
   rw [if_neg nf] at H
   by_cases c8 : a0 < a1
   ·rw [if_pos c8] at H
    have c8b0 := decide_eq_true c8
    clear c8
    obtain rfl := Option.some.inj H
    exact cmp_Compare_int64.lf
   ·rw [if_neg c8] at H
    have c8b0 : decide (a0 < a1) = false := decide_eq_false c8
    clear c8
    by_cases c9 : a0 > a1
    ·rw [if_pos c9] at H
     have c9b0 := decide_eq_true c9
     clear c9
     obtain rfl := Option.some.inj H
     exact cmp_Compare_int64.lf
    ·rw [if_neg c9] at H
     have c9b0 : decide (a1 < a0) = false := decide_eq_false c9
     clear c9
     obtain rfl := Option.some.inj H
     exact cmp_Compare_int64.lf

/-! ### strings_Compare: function 52 -/
def strings_Compare.f (a0 : ByteArray) (a1 : ByteArray) : Option (Int) := some (Lib.compareBytes a0.data.toList a1.data.toList)
theorem strings_Compare.calls (a0 : ByteArray) (a1 : ByteArray) (r : Int) (w : World) (h : strings_Compare.f a0 a1 = some r) :
  Calls Try.prog 52 #[.string a0, .string a1] w fun e w' => e = .returned (.int .i64 r) ∧ Drawn0 w w' := by
 obtain rfl := Option.some.inj h
 refine (Try.strings_Compare a0 a1 w).mono ?_
 rintro e w' ⟨rfl, rfl⟩
 exact ⟨rfl, Drawn0.refl _⟩

/-! ### label_names: function 58 -/
def label_names.f (a0_0 : ByteArray) (a0_1 : ByteArray) (a1_0 : ByteArray) (a1_1 : ByteArray) : Option (Int) := (strings_Compare.f a0_0 a1_0).bind fun t106 => (some t106)
set_option maxHeartbeats 8000000 in
set_option maxRecDepth 100000 in
theorem label_names.calls (a0_0 : ByteArray) (a0_1 : ByteArray) (a1_0 : ByteArray) (a1_1 : ByteArray) (r : Int) (w : World) (h : label_names.f a0_0 a0_1 a1_0 a1_1 = some r) :
  Calls Try.prog 58 #[.agg #[.string a0_0, .string a0_1], .agg #[.string a1_0, .string a1_1]] w fun e w' => e = .returned (.int .i64 r) ∧ Below w.heap.size w w' := by
 have hu103 := Try.underlying103; have HB := Aside0.mk (Below.refl w.heap.size w); have H : ((strings_Compare.f a0_0 a1_0).bind fun t106 => (some t106)) = some r := h; clear h; obtain ⟨t106, A3, H⟩ := be H; obtain rfl := Option.some.inj H; go_enter Try.func58, Try.ntmps58
 go_wp2_with (first | ((with_reducible refine gate_dst (N := 2) rfl ?_); refine box_event ?hg (N := 2) ?hd (cs := #[.string a0_0, .string a0_1]) (t := 103) ?hr ?_; (case hd => rfl); (case hg => rfl); (case hr => first | (go_simp; done) | (go_simp; rfl)); intro gb104 hg w4 hbox hb; have BK104 := Aside0.mk (hbox); have GW104 := Aside0.mk ((zad : w.heap.size ≤ gb104)); have GE104 := Aside0.mk ((zad : w.heap.size ≤ gb104)); replace HB := Aside0.mk (below_step bl hb); clear hb hbox hg) | ((with_reducible refine gate_dst (N := 3) rfl ?_); refine box_event ?hg (N := 3) ?hd (cs := #[.string a1_0, .string a1_1]) (t := 103) ?hr ?_; (case hd => rfl); (case hg => rfl); (case hr => first | (go_simp; done) | (go_simp; rfl)); intro gb105 hg w5 hbox hb; have BK105 := Aside0.mk (hbox); have GW105 := Aside0.mk ((zak : w.heap.size ≤ gb105)); have GE105 := Aside0.mk ((zak : w.heap.size ≤ gb105)); have NB104_105 := Aside0.mk ((by rw [hg]; exact Nat.ne_of_lt (blk_lt (g := gb104) (o := .cells #[.string a0_0, .string a0_1] 103 (0, 0)) (bz BK104.out)) : gb104 ≠ gb105)); have NB105_104 := Aside0.mk ((by rw [hg]; exact Nat.ne_of_gt (blk_lt (g := gb104) (o := .cells #[.string a0_0, .string a0_1] 103 (0, 0)) (bz BK104.out)) : gb105 ≠ gb104)); replace BK104 := Aside0.mk (blk_below (g := gb104) (o := .cells #[.string a0_0, .string a0_1] 103 (0, 0)) (bz BK104.out) hb); replace HB := Aside0.mk (below_step bs hb); clear hb hbox hg; have hnb6 := NB104_105.out; have hnc6 := NB105_104.out; have hcz7_0 : w5.cell? ⟨gb104, 0, none⟩ = some (.string a0_0) := (blk_cell BK104.out 0).trans rfl; have hcz7_1 : w5.cell? ⟨gb104, 1, none⟩ = some (.string a0_1) := (blk_cell BK104.out 1).trans rfl; have hfz7_0 := blk_frozen BK104.out 0; have hfz7_1 := blk_frozen BK104.out 1; have hcz8_0 : w5.cell? ⟨gb105, 0, none⟩ = some (.string a1_0) := (blk_cell BK105.out 0).trans rfl; have hcz8_1 : w5.cell? ⟨gb105, 1, none⟩ = some (.string a1_1) := (blk_cell BK105.out 1).trans rfl; have hfz8_0 := blk_frozen BK105.out 0; have hfz8_1 := blk_frozen BK105.out 1) | ((with_reducible refine gate_callee (f := 52) rfl ?_); refine goesL_ (some 9) rfl rfl Try.func52 (by kernel_rfl) rfl #[.string a0_0, .string a1_0] rfl ml ?_; (with_reducible refine (strings_Compare.calls a0_0 a1_0 t106 _ A3.out).mono ?_); rintro e w' ⟨rfl, ⟨nd, rfl⟩⟩; refine ⟨_, rfl, ?_⟩))
 go_ret
 exact ⟨zaa, bs⟩

/-! ### label_Order_1: function 62 -/
def label_Order_1.f (k : Nat) (a0_0 : ByteArray) (a0_1 : ByteArray) (a1_0 : ByteArray) (a1_1 : ByteArray) : Option (Int) := (label_names.f a0_0 a0_1 a1_0 a1_1).bind fun t109 => ((strings_Compare.f a0_1 a1_1).bind fun t110 => ((cmp_Or_int.f k (([t109, t110] : List Int))).bind fun t114 => (some t114)))
theorem label_Order_1.mono : ∀ a0 a1 a2 a3 k, LeO (label_Order_1.f k a0 a1 a2 a3) (label_Order_1.f (k + 1) a0 a1 a2 a3) := by
 intro a0 a1 a2 a3 k
 unfold label_Order_1.f
 exact mo
def label_Order_1.T1 : Bool × List (List Nat × List Nat) := (true, [([], []), ([], []), ([0, 1], [0, 1]), ([], []), ([3], [3]), ([], []), ([5], [5]), ([4, 6, 2], [4, 6]), ([2, 7], [2, 7]), ([8, 7], [8]), ([9, 9, 0, 1, 2, 3, 4, 5, 6, 7, 8, 9], [9])])
def label_Order_1.B1 : List Nat := [0, 0, 3, 0, 8, 0, 32, 127, 255, 511, 1023]
theorem label_Order_1.tab1 : rtab .any (opsOf Try.f62 1) = label_Order_1.T1 := by kernel_rfl
theorem label_Order_1.bits1 : waitsOk label_Order_1.T1.2 label_Order_1.B1 = true := by kernel_rfl
set_option maxHeartbeats 8000000 in
set_option maxRecDepth 100000 in
theorem label_Order_1.calls (k : Nat) (a0_0 : ByteArray) (a0_1 : ByteArray) (a1_0 : ByteArray) (a1_1 : ByteArray) (r : Int) (w : World) (h : label_Order_1.f k a0_0 a0_1 a1_0 a1_1 = some r) :
  Calls Try.prog 62 #[.agg #[.string a0_0, .string a0_1], .agg #[.string a1_0, .string a1_1]] w fun e w' => e = .returned (.int .i64 r) ∧ Below w.heap.size w w' := by
 have hu103 := Try.underlying103; have HB := Aside0.mk (Below.refl w.heap.size w); have H : ((label_names.f a0_0 a0_1 a1_0 a1_1).bind fun t109 => ((strings_Compare.f a0_1 a1_1).bind fun t110 => ((cmp_Or_int.f k (([t109, t110] : List Int))).bind fun t114 => (some t114)))) = some r := h; clear h; obtain ⟨t109, A3, H⟩ := be H; obtain ⟨t110, A4, H⟩ := be H; obtain ⟨y111, hy111⟩ : ∃ y_ : List Int, y_ = (([t109, t110] : List Int)) := ⟨_, rfl⟩; replace H : ((cmp_Or_int.f k y111).bind fun t114 => (some t114)) = some r := by first | (rw [hy111]; with_reducible exact H) | (have H2_ := (Option.bind_some _ _).symm.trans H; rw [hy111]; with_reducible exact H2_) | (have H2_ := (Option.bind_some _ _).symm.trans H; with_reducible exact H2_) | with_reducible exact H | (rw [hy111]; exact H) | exact H
 have Ny111 := Aside0.mk hy111; clear hy111; obtain ⟨t114, A5, H⟩ := be H; obtain rfl := Option.some.inj H; go_enter Try.func62, Try.ntmps62
 (try go_wp2_with (first | ((with_reducible refine gate_dst (N := 2) rfl ?_); refine box_event ?hg (N := 2) ?hd (cs := #[.string a0_0, .string a0_1]) (t := 103) ?hr ?_; (case hd => rfl); (case hg => rfl); (case hr => first | (go_simp; done) | (go_simp; rfl)); intro gb107 hg w6 hbox hb; have BK107 := Aside0.mk (hbox); have GW107 := Aside0.mk ((zad : w.heap.size ≤ gb107)); have GE107 := Aside0.mk ((zad : w.heap.size ≤ gb107)); replace HB := Aside0.mk (below_step bl hb); clear hb hbox hg) | ((with_reducible refine gate_dst (N := 3) rfl ?_); refine box_event ?hg (N := 3) ?hd (cs := #[.string a1_0, .string a1_1]) (t := 103) ?hr ?_; (case hd => rfl); (case hg => rfl); (case hr => first | (go_simp; done) | (go_simp; rfl)); intro gb108 hg w7 hbox hb; have BK108 := Aside0.mk (hbox); have GW108 := Aside0.mk ((zak : w.heap.size ≤ gb108)); have GE108 := Aside0.mk ((zak : w.heap.size ≤ gb108)); have NB107_108 := Aside0.mk ((by rw [hg]; exact Nat.ne_of_lt (blk_lt (g := gb107) (o := .cells #[.string a0_0, .string a0_1] 103 (0, 0)) (bz BK107.out)) : gb107 ≠ gb108)); have NB108_107 := Aside0.mk ((by rw [hg]; exact Nat.ne_of_gt (blk_lt (g := gb107) (o := .cells #[.string a0_0, .string a0_1] 103 (0, 0)) (bz BK107.out)) : gb108 ≠ gb107)); replace BK107 := Aside0.mk (blk_below (g := gb107) (o := .cells #[.string a0_0, .string a0_1] 103 (0, 0)) (bz BK107.out) hb); replace HB := Aside0.mk (below_step bs hb); clear hb hbox hg))); replace BK107 := Aside0.mk (blk_drew BK107.out); replace BK108 := Aside0.mk (blk_drew BK108.out); replace HB := Aside0.mk (below_drew1 HB.out); refine start_ (n := 11) (S := fun w' => w'.cell? ⟨gb107, 0, none⟩ = some (.string a0_0) ∧ w'.cell? ⟨gb107, 1, none⟩ = some (.string a0_1) ∧ w'.cell? ⟨gb108, 0, none⟩ = some (.string a1_0) ∧ w'.cell? ⟨gb108, 1, none⟩ = some (.string a1_1)) (ds := []) #[N_,N_,N_,N_,N_,N_,N_,N_,N_,N_,N_] (by kernel_rfl) rfl rfl ⟨(blk_cell BK107.out 0).trans rfl, (blk_cell BK107.out 1).trans rfl, (blk_cell BK108.out 0).trans rfl, (blk_cell BK108.out 1).trans rfl⟩ (fun hHeld => ?_); refine with_tabW label_Order_1.tab1 label_Order_1.bits1 (fun HT_ HW_ => ?_); generalize w7.drew = w8 at BK107 BK108 HB hHeld ⊢; refine qY 3 8 HT_.out ?_; refine qY 5 10 HT_.out ?_; refine tY 0 5 HT_.out HW_.out hHeld ?_; refine tY 1 6 HT_.out HW_.out hHeld ?_; refine tY 4 9 HT_.out HW_.out hHeld ?_; refine tY 6 11 HT_.out HW_.out hHeld ?_; refine one_ (i := 2) (N := some 7) #[J_,J_,J_,J_,J_,J_,J_,N_,N_,N_,N_] rfl rfl (one_of HT_.out (by kernel_rfl)) (by decide) (fun K hK => ?_); refine goes_ Try.func58 (by kernel_rfl) rfl #[.agg #[.string a0_0, .string a0_1], .agg #[.string a1_0, .string a1_1]] (by rfl) rfl rfl ml ?_; (with_reducible refine (label_names.calls a0_0 a0_1 a1_0 a1_1 t109 _ A3.out).mono ?_); rintro e w9 ⟨rfl, hb⟩; refine ⟨_, rfl, ?_⟩; replace BK107 := Aside0.mk (blk_below (g := gb107) (o := .cells #[.string a0_0, .string a0_1] 103 (0, 0)) (bz BK107.out) hb); replace BK108 := Aside0.mk (blk_below (g := gb108) (o := .cells #[.string a1_0, .string a1_1] 103 (0, 0)) (bz BK108.out) hb); replace HB := Aside0.mk (below_step bs hb)
 (try clear hb)
 (try clear hb2)
 (try clear hk)
 (try clear hi); refine hK.out _ _ ⟨(blk_cell BK107.out 0).trans rfl, (blk_cell BK107.out 1).trans rfl, (blk_cell BK108.out 0).trans rfl, (blk_cell BK108.out 1).trans rfl⟩ (fun hHeld => ?_); clear hK K; refine norm_ (a' := ?_) ?_ ?_; rotate_left
 ·show Act.put _ (some 7) _ = _; simp only [Act.put, List.setIfInBounds_toArray, List.set_cons_zero, List.set_cons_succ, i64_w, i32_w]; rfl
 refine one_ (i := 7) (N := some 12) #[J_,J_,J_,J_,J_,J_,J_,J_,N_,N_,N_] rfl rfl (one_of HT_.out (by kernel_rfl)) (by decide) (fun K hK => ?_); refine goes_ Try.func52 (by kernel_rfl) rfl #[.string a0_1, .string a1_1] (by rfl) rfl rfl ml ?_; (with_reducible refine (strings_Compare.calls a0_1 a1_1 t110 _ A4.out).mono ?_); rintro e w' ⟨rfl, ⟨nd, rfl⟩⟩; refine ⟨_, rfl, ?_⟩; refine hK.out _ _ ⟨(blk_cell BK107.out 0).trans rfl, (blk_cell BK107.out 1).trans rfl, (blk_cell BK108.out 0).trans rfl, (blk_cell BK108.out 1).trans rfl⟩ (fun hHeld => ?_); clear hK K; refine norm_ (a' := ?_) ?_ ?_; rotate_left
 ·show Act.put _ (some 12) _ = _; simp only [Act.put, List.setIfInBounds_toArray, List.set_cons_zero, List.set_cons_succ, i64_w, i32_w]; rfl
 refine one_ (i := 8) (N := some 13) #[J_,J_,J_,J_,J_,J_,J_,J_,J_,N_,N_] rfl rfl (one_of HT_.out (by kernel_rfl)) (by decide) (fun K hK => ?_); refine Kd.R_lit_step (Kd.int .i64) _ 3 ?hg (N := 13) ?hd (xs := ([t109, t110] : List Int)) (inner := [.int .i64 t109, .int .i64 t110]) (ok := fun _ => True) (okp := fun _ => True) ?hr ?hp (fun _ hk => hk) trivial (Below.refl _ _) (Nat.le_refl _) (by simp) ?_; (case hd => rfl); (case hg => rfl); (case hr => first | (go_simp; done) | (go_simp; rfl)); (case hp => exact (Reps.one (show Kd.M (Kd.int .i64) _ _ _ t109 [.int .i64 t109] from rfl) (Reps.one (show Kd.M (Kd.int .i64) _ _ _ t110 [.int .i64 t110] from rfl) (Reps.none _ _)))); intro v112 w10 ho11 hb hg_ hnew_; clear hg_ hnew_
 (first | rw [← Ny111.out] at ho11 | (simp only [Int.reduceToNat] at ho11; rw [← Ny111.out] at ho11)); have HO113 := Aside0.mk (Kd.R_lower ho11 (below_size bs)); replace BK107 := Aside0.mk (blk_below (g := gb107) (o := .cells #[.string a0_0, .string a0_1] 103 (0, 0)) (bz BK107.out) hb); replace BK108 := Aside0.mk (blk_below (g := gb108) (o := .cells #[.string a1_0, .string a1_1] 103 (0, 0)) (bz BK108.out) hb); replace HB := Aside0.mk (below_step bs hb); clear hb ho11; obtain ⟨Ao12, co12, eo12⟩ := Kd.R_slice HO113.out
 (first | subst eo12 | (injection eo12 with f1_ f2_ f3_; have f4_ := f1_.symm; have f5_ := f3_.symm; clear f1_ f2_ f3_; subst f4_; subst f5_)); refine hK.out _ _ ⟨(blk_cell BK107.out 0).trans rfl, (blk_cell BK107.out 1).trans rfl, (blk_cell BK108.out 0).trans rfl, (blk_cell BK108.out 1).trans rfl⟩ (fun hHeld => ?_); clear hK K; refine norm_ (a' := ?_) ?_ ?_; rotate_left
 ·show Act.put _ (some 13) _ = _; simp only [Act.put, List.setIfInBounds_toArray, List.set_cons_zero, List.set_cons_succ, i64_w, i32_w]; rfl
 refine one_ (i := 9) (N := some 14) #[J_,J_,J_,J_,J_,J_,J_,J_,J_,J_,N_] rfl rfl (one_of HT_.out (by kernel_rfl)) (by decide) (fun K hK => ?_); refine goes_ Try.func49 (by kernel_rfl) rfl #[.slice Ao12 y111.length co12] (by rfl) rfl rfl ml ?_; with_reducible refine (cmp_Or_int.calls k _ _ y111 t114 _ ?side1 ?side2 A5.out).mono ?_
 (case side1 => exact cz (Kd.R_reads' HO113.out).2.2)
 (case side2 => exact (Kd.R_reads' HO113.out).2.1); rintro e w' ⟨rfl, ⟨nd, rfl⟩⟩; refine ⟨_, rfl, ?_⟩; refine hK.out _ _ ⟨(blk_cell BK107.out 0).trans rfl, (blk_cell BK107.out 1).trans rfl, (blk_cell BK108.out 0).trans rfl, (blk_cell BK108.out 1).trans rfl⟩ (fun hHeld => ?_); clear hK K; refine norm_ (a' := ?_) ?_ ?_; rotate_left
 ·show Act.put _ (some 14) _ = _; simp only [Act.put, List.setIfInBounds_toArray, List.set_cons_zero, List.set_cons_succ, i64_w, i32_w]; rfl
 refine qY 10 4 HT_.out ?_; refine done_ (done_of HT_.out (by kernel_rfl)) ?_; (try go_wp2); go_ret
 exact ⟨zaa, bs⟩

/-! ### label_Pair_label_Order_1: function 61 -/
def label_Pair_label_Order_1.l0 : Nat → List (S103) → List (S103) → List (S103) → Int → Int → Option (Int)
 | 0, _, _, _, _, _ => none
 | k + 1, x0, x1, x11, x12, x13 => if x13 < x12 then (if 0 ≤ x13 then (if x13 < (x11.length : Int) then (if x13 ≥ (x1.length : Int) then (some 1) else (if x13 < (x1.length : Int) then ((label_Order_1.f k ((rd_T103 x11 x13).f0) ((rd_T103 x11 x13).f1) ((rd_T103 x1 x13).f0) ((rd_T103 x1 x13).f1)).bind fun t119 => (if t119 = 0 then (label_Pair_label_Order_1.l0 k x0 x1 x11 x12 (wrap64 (x13 + 1))) else (some t119))) else (none))) else (none)) else (none)) else (if (x0.length : Int) < (x1.length : Int) then (some (-1)) else (some 0))
def label_Pair_label_Order_1.f (k : Nat) (l0 : List (S103)) (l1 : List (S103))  : Option (Int) := label_Pair_label_Order_1.l0 k l0 l1 l0 (l0.length : Int) 0
theorem label_Pair_label_Order_1.mono_l : ∀ k, (∀ y0 y1 y2 y3 y4, LeO (label_Pair_label_Order_1.l0 k y0 y1 y2 y3 y4) (label_Pair_label_Order_1.l0 (k + 1) y0 y1 y2 y3 y4))
 | 0 => fun _ _ _ _ _ r h => by simp [label_Pair_label_Order_1.l0] at h
 | k + 1 => by
  have ih0 := label_Pair_label_Order_1.mono_l k
  ·intro y0 y1 y2 y3 y4
   unfold label_Pair_label_Order_1.l0
   exact mo
theorem label_Pair_label_Order_1.mono : ∀ a0 a1 k, LeO (label_Pair_label_Order_1.f k a0 a1) (label_Pair_label_Order_1.f (k + 1) a0 a1) := by
 intro a0 a1 k
 have ih0 := label_Pair_label_Order_1.mono_l k
 unfold label_Pair_label_Order_1.f
 exact mo
set_option maxHeartbeats 8000000 in
set_option maxRecDepth 100000 in
theorem label_Pair_label_Order_1.calls (k : Nat) (A0 : Option Addr) (c0 : Nat) (l0 : List (S103)) (A1 : Option Addr) (c1 : Nat) (l1 : List (S103))  (r : Int) (w : World) (hr0 : Kd.C k103 w A0 l0.length l0) (hc0 : l0.length ≤ c0) (hr1 : Kd.C k103 w A1 l1.length l1) (hc1 : l1.length ≤ c1) (h : label_Pair_label_Order_1.f k l0 l1 = some r) :
  Calls Try.prog 61 #[.slice A0 l0.length c0, .slice A1 l1.length c1, .func (.func 62) #[] #[]] w fun e w' => e = .returned (.int .i64 r) ∧ Below w.heap.size w w' := by
 have hu103 := Try.underlying103; have HR0 := Aside0.mk hr0; have HC0 := Aside0.mk hc0; clear hr0 hc0; have HR1 := Aside0.mk hr1; have HC1 := Aside0.mk hc1; clear hr1 hc1; have HB := Aside0.mk (Below.refl w.heap.size w); have H : (label_Pair_label_Order_1.l0 k l0 l1 l0 (l0.length : Int) 0) = some r := h; clear h; have H' := Aside0.mk H; clear H; go_enter Try.func61, Try.ntmps61
 go_wp2
 go_loopg [13] k (fun kq v13 w' => ∃ (x13_1 : Int), v13 = .int .i64 x13_1 ∧ Aside0 (label_Pair_label_Order_1.l0 kq l0 l1 l0 (l0.length : Int) x13_1 = some r) ∧ Aside0 (kq ≤ k) ∧ Aside0 (Below w.heap.size w w'))
 case atStart => exact ⟨(0), rs, H', ⟨Nat.le_refl _⟩, ⟨bl⟩⟩
 case round =>
  clear H'; (try clear c1); (try clear p2); obtain ⟨x13_1, rfl, HA, HK1, HB⟩ := hrel; cases gk with
  | zero => exact absurd HA.out (by simp [label_Pair_label_Order_1.l0])
  | succ k1 =>
   have H := HA.out; clear HA; simp only [label_Pair_label_Order_1.l0] at H; by_cases c4 : x13_1 < (l0.length : Int)
   ·rw [if_pos c4] at H; have c4b0 := decide_eq_true c4; clear c4; obtain ⟨c5, H⟩ := ip H; have c5b0 := decide_eq_true c5; clear c5; obtain ⟨c6, H⟩ := ip H; have c6b0 := decide_eq_true c6; clear c6; by_cases c7 : x13_1 ≥ (l1.length : Int)
    ·rw [if_pos c7] at H; have c7b0 := decide_eq_true c7; clear c7; obtain rfl := Option.some.inj H; have p115 : 0 ≤ (x13_1 : Int) := od; have q115 : x13_1 < (l0.length : Int) := od; obtain ⟨ad115, e115, hx115_0, hx115_1⟩ := at_T103 HR0.out x13_1 p115 q115; cases e115; replace hx115_0 := cu HB.out hx115_0; replace hx115_1 := cu HB.out hx115_1; replace p115 := eq_true p115; replace q115 := eq_true q115; go_wp2_with (first | ((with_reducible refine gate_dst (N := 8) rfl ?_); refine box_event ?hg (N := 8) ?hd (cs := #[.string (⟨#[]⟩ : ByteArray), .string (⟨#[]⟩ : ByteArray)]) (t := 103) ?hr ?_; (case hd => rfl); (case hg => rfl); (case hr => first | (go_simp; done) | (go_simp; rfl)); intro gb116 hg w8 hbox hb; have BK116 := Aside0.mk (hbox); have GW116 := Aside0.mk ((zad : w.heap.size ≤ gb116)); have GE116 := Aside0.mk ((zad : w.heap.size ≤ gb116)); replace HB := Aside0.mk (below_step bl hb); clear hb hbox hg; have hcz9_0 : w8.cell? ⟨gb116, 0, none⟩ = some (.string (⟨#[]⟩ : ByteArray)) := (blk_cell BK116.out 0).trans rfl; have hcz9_1 : w8.cell? ⟨gb116, 1, none⟩ = some (.string (⟨#[]⟩ : ByteArray)) := (blk_cell BK116.out 1).trans rfl; have hfz9_0 := blk_frozen BK116.out 0; have hfz9_1 := blk_frozen BK116.out 1))
     go_ret
     exact ⟨zaa, bs⟩
    ·rw [if_neg c7] at H; have c7b0 : decide ((l1.length : Int) ≤ x13_1) = false := decide_eq_false c7; clear c7; obtain ⟨c10, H⟩ := ip H; have c10b0 := decide_eq_true c10; clear c10; obtain ⟨t119, A11, H⟩ := be H; by_cases c12 : t119 = 0
     ·rw [if_pos c12] at H; have c12b0 : (t119 == 0) = true := beq_iff_eq.mpr c12; have c12b1 : (t119 != 0) = false := bne_eq_false_iff_eq.mpr c12; clear c12; have H' := Aside0.mk H; clear H; have p115 : 0 ≤ (x13_1 : Int) := od; have q115 : x13_1 < (l0.length : Int) := od; obtain ⟨ad115, e115, hx115_0, hx115_1⟩ := at_T103 HR0.out x13_1 p115 q115; cases e115; replace hx115_0 := cu HB.out hx115_0; replace hx115_1 := cu HB.out hx115_1; replace p115 := eq_true p115; replace q115 := eq_true q115; go_wp2_with (first | ((with_reducible refine gate_dst (N := 8) rfl ?_); refine box_event ?hg (N := 8) ?hd (cs := #[.string (⟨#[]⟩ : ByteArray), .string (⟨#[]⟩ : ByteArray)]) (t := 103) ?hr ?_; (case hd => rfl); (case hg => rfl); (case hr => first | (go_simp; done) | (go_simp; rfl)); intro gb116 hg w13 hbox hb; have BK116 := Aside0.mk (hbox); have GW116 := Aside0.mk ((zad : w.heap.size ≤ gb116)); have GE116 := Aside0.mk ((zad : w.heap.size ≤ gb116)); replace HB := Aside0.mk (below_step bl hb); clear hb hbox hg; have hcz14_0 : w13.cell? ⟨gb116, 0, none⟩ = some (.string (⟨#[]⟩ : ByteArray)) := (blk_cell BK116.out 0).trans rfl; have hcz14_1 : w13.cell? ⟨gb116, 1, none⟩ = some (.string (⟨#[]⟩ : ByteArray)) := (blk_cell BK116.out 1).trans rfl; have hfz14_0 := blk_frozen BK116.out 0; have hfz14_1 := blk_frozen BK116.out 1; have p117 : 0 ≤ (x13_1 : Int) := od; have q117 : x13_1 < (l1.length : Int) := od; obtain ⟨ad117, e117, hx117_0, hx117_1⟩ := at_T103 HR1.out x13_1 p117 q117; cases e117; have hn117_0 : ad117.block ≠ gb116 := Nat.ne_of_lt (Nat.lt_of_lt_of_le (by have := World.block_lt_of_cell? _ _ hx117_0; first | rwa [add_block] at this | exact this) GW116.out); have hn117_1 : ad117.block ≠ gb116 := Nat.ne_of_lt (Nat.lt_of_lt_of_le (by have := World.block_lt_of_cell? _ _ hx117_0; first | rwa [add_block] at this | exact this) GW116.out); replace hx117_0 := cu HB.out hx117_0; replace hx117_1 := cu HB.out hx117_1; replace hx117_0 := (cell_far (p := ⟨gb116, 0, none⟩) zbq (.string ((rd_T103 l0 x13_1).f0))).trans hx117_0; replace hx117_1 := (cell_far (p := ⟨gb116, 0, none⟩) zbq (.string ((rd_T103 l0 x13_1).f0))).trans hx117_1; replace hx117_0 := (cell_far (p := ⟨gb116, 1, none⟩) zbr (.string ((rd_T103 l0 x13_1).f1))).trans hx117_0; replace hx117_1 := (cell_far (p := ⟨gb116, 1, none⟩) zbr (.string ((rd_T103 l0 x13_1).f1))).trans hx117_1; clear hn117_0; clear hn117_1; replace p117 := eq_true p117; replace q117 := eq_true q117) | ((with_reducible refine gate_dst (N := 9) rfl ?_); refine box_event ?hg (N := 9) ?hd (cs := #[.string (⟨#[]⟩ : ByteArray), .string (⟨#[]⟩ : ByteArray)]) (t := 103) ?hr ?_; (case hd => rfl); (case hg => rfl); (case hr => first | (go_simp; done) | (go_simp; rfl)); intro gb118 hg w15 hbox hb; have BK118 := Aside0.mk (hbox); have GW118 := Aside0.mk ((zak : w.heap.size ≤ gb118)); have GE118 := Aside0.mk ((zak : w.heap.size ≤ gb118)); have NB116_118 := Aside0.mk ((zan : gb116 ≠ gb118)); have NB118_116 := Aside0.mk ((zao : gb118 ≠ gb116)); replace BK116 := Aside0.mk (blk_below (g := gb116) (o := .cells #[.string ((rd_T103 l0 x13_1).f0), .string ((rd_T103 l0 x13_1).f1)] 103 (0, 0)) zab hb); replace HB := Aside0.mk (below_step bs hb); clear hb hbox hg; have hnb16 := NB118_116.out; have hnc16 := NB116_118.out; have hcz17_0 : w15.cell? ⟨gb118, 0, none⟩ = some (.string (⟨#[]⟩ : ByteArray)) := (blk_cell BK118.out 0).trans rfl; have hcz17_1 : w15.cell? ⟨gb118, 1, none⟩ = some (.string (⟨#[]⟩ : ByteArray)) := (blk_cell BK118.out 1).trans rfl; have hfz17_0 := blk_frozen BK118.out 0; have hfz17_1 := blk_frozen BK118.out 1; have hcz18_0 : w15.cell? ⟨gb116, 0, none⟩ = some (.string ((rd_T103 l0 x13_1).f0)) := (blk_cell BK116.out 0).trans rfl; have hcz18_1 : w15.cell? ⟨gb116, 1, none⟩ = some (.string ((rd_T103 l0 x13_1).f1)) := (blk_cell BK116.out 1).trans rfl; have hfz18_0 := blk_frozen BK116.out 0; have hfz18_1 := blk_frozen BK116.out 1) | ((with_reducible refine x_gate_calleeT rfl ?_); refine x_goesLT_ (some 29) rfl rfl Try.func62 (by kernel_rfl) rfl #[.agg #[.string ((rd_T103 l0 x13_1).f0), .string ((rd_T103 l0 x13_1).f1)], .agg #[.string ((rd_T103 l1 x13_1).f0), .string ((rd_T103 l1 x13_1).f1)]] rfl zda ml ?_; (with_reducible refine (label_Order_1.calls k1 ((rd_T103 l0 x13_1).f0) ((rd_T103 l0 x13_1).f1) ((rd_T103 l1 x13_1).f0) ((rd_T103 l1 x13_1).f1) t119 _ A11.out).mono ?_); rintro e w19 ⟨rfl, hb⟩; refine ⟨_, rfl, ?_⟩; replace BK116 := Aside0.mk (blk_below (g := gb116) (o := .cells #[.string ((rd_T103 l0 x13_1).f0), .string ((rd_T103 l0 x13_1).f1)] 103 (0, 0)) zbe hb); replace BK118 := Aside0.mk (blk_below (g := gb118) (o := .cells #[.string ((rd_T103 l1 x13_1).f0), .string ((rd_T103 l1 x13_1).f1)] 103 (0, 0)) zar hb); replace HB := Aside0.mk (below_step bs hb); (try clear hb); (try clear hb2); (try clear hk); (try clear hi)))
      go_roundg k1
      case measure => have := HK1.out; omega
      case rel => exact ⟨(wrap64 (x13_1 + 1)), rs, H', ⟨zbp⟩, ⟨bs⟩⟩
     ·rw [if_neg c12] at H; have c12b0 : (t119 == 0) = false := beq_eq_false_iff_ne.mpr c12; have c12b1 : (t119 != 0) = true := bne_iff_ne.mpr c12; obtain rfl := Option.some.inj H; have p115 : 0 ≤ (x13_1 : Int) := od; have q115 : x13_1 < (l0.length : Int) := od; obtain ⟨ad115, e115, hx115_0, hx115_1⟩ := at_T103 HR0.out x13_1 p115 q115; cases e115; replace hx115_0 := cu HB.out hx115_0; replace hx115_1 := cu HB.out hx115_1; replace p115 := eq_true p115; replace q115 := eq_true q115; go_wp2_with (first | ((with_reducible refine gate_dst (N := 8) rfl ?_); refine box_event ?hg (N := 8) ?hd (cs := #[.string (⟨#[]⟩ : ByteArray), .string (⟨#[]⟩ : ByteArray)]) (t := 103) ?hr ?_; (case hd => rfl); (case hg => rfl); (case hr => first | (go_simp; done) | (go_simp; rfl)); intro gb116 hg w20 hbox hb; have BK116 := Aside0.mk (hbox); have GW116 := Aside0.mk ((zad : w.heap.size ≤ gb116)); have GE116 := Aside0.mk ((zad : w.heap.size ≤ gb116)); replace HB := Aside0.mk (below_step bl hb); clear hb hbox hg; have hcz21_0 : w20.cell? ⟨gb116, 0, none⟩ = some (.string (⟨#[]⟩ : ByteArray)) := (blk_cell BK116.out 0).trans rfl; have hcz21_1 : w20.cell? ⟨gb116, 1, none⟩ = some (.string (⟨#[]⟩ : ByteArray)) := (blk_cell BK116.out 1).trans rfl; have hfz21_0 := blk_frozen BK116.out 0; have hfz21_1 := blk_frozen BK116.out 1; have p117 : 0 ≤ (x13_1 : Int) := od; have q117 : x13_1 < (l1.length : Int) := od; obtain ⟨ad117, e117, hx117_0, hx117_1⟩ := at_T103 HR1.out x13_1 p117 q117; cases e117; have hn117_0 : ad117.block ≠ gb116 := Nat.ne_of_lt (Nat.lt_of_lt_of_le (by have := World.block_lt_of_cell? _ _ hx117_0; first | rwa [add_block] at this | exact this) GW116.out); have hn117_1 : ad117.block ≠ gb116 := Nat.ne_of_lt (Nat.lt_of_lt_of_le (by have := World.block_lt_of_cell? _ _ hx117_0; first | rwa [add_block] at this | exact this) GW116.out); replace hx117_0 := cu HB.out hx117_0; replace hx117_1 := cu HB.out hx117_1; replace hx117_0 := (cell_far (p := ⟨gb116, 0, none⟩) zbq (.string ((rd_T103 l0 x13_1).f0))).trans hx117_0; replace hx117_1 := (cell_far (p := ⟨gb116, 0, none⟩) zbq (.string ((rd_T103 l0 x13_1).f0))).trans hx117_1; replace hx117_0 := (cell_far (p := ⟨gb116, 1, none⟩) zbr (.string ((rd_T103 l0 x13_1).f1))).trans hx117_0; replace hx117_1 := (cell_far (p := ⟨gb116, 1, none⟩) zbr (.string ((rd_T103 l0 x13_1).f1))).trans hx117_1; clear hn117_0; clear hn117_1; replace p117 := eq_true p117; replace q117 := eq_true q117) | ((with_reducible refine gate_dst (N := 9) rfl ?_); refine box_event ?hg (N := 9) ?hd (cs := #[.string (⟨#[]⟩ : ByteArray), .string (⟨#[]⟩ : ByteArray)]) (t := 103) ?hr ?_; (case hd => rfl); (case hg => rfl); (case hr => first | (go_simp; done) | (go_simp; rfl)); intro gb118 hg w22 hbox hb; have BK118 := Aside0.mk (hbox); have GW118 := Aside0.mk ((zak : w.heap.size ≤ gb118)); have GE118 := Aside0.mk ((zak : w.heap.size ≤ gb118)); have NB116_118 := Aside0.mk ((zan : gb116 ≠ gb118)); have NB118_116 := Aside0.mk ((zao : gb118 ≠ gb116)); replace BK116 := Aside0.mk (blk_below (g := gb116) (o := .cells #[.string ((rd_T103 l0 x13_1).f0), .string ((rd_T103 l0 x13_1).f1)] 103 (0, 0)) zab hb); replace HB := Aside0.mk (below_step bs hb); clear hb hbox hg; have hnb23 := NB118_116.out; have hnc23 := NB116_118.out; have hcz24_0 : w22.cell? ⟨gb118, 0, none⟩ = some (.string (⟨#[]⟩ : ByteArray)) := (blk_cell BK118.out 0).trans rfl; have hcz24_1 : w22.cell? ⟨gb118, 1, none⟩ = some (.string (⟨#[]⟩ : ByteArray)) := (blk_cell BK118.out 1).trans rfl; have hfz24_0 := blk_frozen BK118.out 0; have hfz24_1 := blk_frozen BK118.out 1; have hcz25_0 : w22.cell? ⟨gb116, 0, none⟩ = some (.string ((rd_T103 l0 x13_1).f0)) := (blk_cell BK116.out 0).trans rfl; have hcz25_1 : w22.cell? ⟨gb116, 1, none⟩ = some (.string ((rd_T103 l0 x13_1).f1)) := (blk_cell BK116.out 1).trans rfl; have hfz25_0 := blk_frozen BK116.out 0; have hfz25_1 := blk_frozen BK116.out 1) | ((with_reducible refine x_gate_calleeT rfl ?_); refine x_goesLT_ (some 29) rfl rfl Try.func62 (by kernel_rfl) rfl #[.agg #[.string ((rd_T103 l0 x13_1).f0), .string ((rd_T103 l0 x13_1).f1)], .agg #[.string ((rd_T103 l1 x13_1).f0), .string ((rd_T103 l1 x13_1).f1)]] rfl zda ml ?_; (with_reducible refine (label_Order_1.calls k1 ((rd_T103 l0 x13_1).f0) ((rd_T103 l0 x13_1).f1) ((rd_T103 l1 x13_1).f0) ((rd_T103 l1 x13_1).f1) t119 _ A11.out).mono ?_); rintro e w26 ⟨rfl, hb⟩; refine ⟨_, rfl, ?_⟩; replace BK116 := Aside0.mk (blk_below (g := gb116) (o := .cells #[.string ((rd_T103 l0 x13_1).f0), .string ((rd_T103 l0 x13_1).f1)] 103 (0, 0)) zbe hb); replace BK118 := Aside0.mk (blk_below (g := gb118) (o := .cells #[.string ((rd_T103 l1 x13_1).f0), .string ((rd_T103 l1 x13_1).f1)] 103 (0, 0)) zar hb); replace HB := Aside0.mk (below_step bs hb); (try clear hb); (try clear hb2); (try clear hk); (try clear hi)))
      go_ret
      exact ⟨zaa, bs⟩
   ·rw [if_neg c4] at H; have c4b0 : decide (x13_1 < (l0.length : Int)) = false := decide_eq_false c4; clear c4; by_cases c27 : (l0.length : Int) < (l1.length : Int)
    ·rw [if_pos c27] at H; have c27b0 := decide_eq_true c27; have c27b1 : decide (l0.length < l1.length) = true := decide_eq_true (Int.ofNat_lt.mp c27); clear c27; obtain rfl := Option.some.inj H; go_wp2
     go_ret
     exact ⟨zaa, bl⟩
    ·rw [if_neg c27] at H; have c27b0 : decide ((l0.length : Int) < (l1.length : Int)) = false := decide_eq_false c27; have c27b1 : decide (l0.length < l1.length) = false := decide_eq_false (fun h => c27 (Int.ofNat_lt.mpr h)); clear c27; obtain rfl := Option.some.inj H; go_wp2
     go_ret
     exact ⟨zaa, bl⟩

/-! ### label_Order: function 51 -/
def label_Order.f (k : Nat) (l0 : List (S103)) (l1 : List (S103)) : Option (Int) := (label_Pair_label_Order_1.f k l0 l1).bind fun t120 => (some t120)
theorem label_Order.mono : ∀ a0 a1 k, LeO (label_Order.f k a0 a1) (label_Order.f (k + 1) a0 a1) := by
 intro a0 a1 k
 unfold label_Order.f
 exact mo
set_option maxHeartbeats 8000000 in
set_option maxRecDepth 100000 in
theorem label_Order.calls (k : Nat) (A0 : Option Addr) (c0 : Nat) (l0 : List (S103)) (A1 : Option Addr) (c1 : Nat) (l1 : List (S103)) (r : Int) (w : World) (hr0 : Kd.C k103 w A0 l0.length l0) (hc0 : l0.length ≤ c0) (hr1 : Kd.C k103 w A1 l1.length l1) (hc1 : l1.length ≤ c1) (h : label_Order.f k l0 l1 = some r) :
  Calls Try.prog 51 #[.slice A0 l0.length c0, .slice A1 l1.length c1] w fun e w' => e = .returned (.int .i64 r) ∧ Below w.heap.size w w' := by
 have HR0 := Aside0.mk hr0; have HC0 := Aside0.mk hc0; clear hr0 hc0; have HR1 := Aside0.mk hr1; have HC1 := Aside0.mk hc1; clear hr1 hc1; have HB := Aside0.mk (Below.refl w.heap.size w); have H : ((label_Pair_label_Order_1.f k l0 l1).bind fun t120 => (some t120)) = some r := h; clear h; obtain ⟨t120, A3, H⟩ := be H; obtain rfl := Option.some.inj H; go_enter Try.func51, Try.ntmps51
 go_wp2_with (first | ((with_reducible refine gate_callee (f := 61) rfl ?_); refine goesL_ (some 7) rfl rfl Try.func61 (by kernel_rfl) rfl #[.slice A0 l0.length c0, .slice A1 l1.length c1, .func (.func 62) #[] #[]] rfl ml ?_; (with_reducible refine (label_Pair_label_Order_1.calls k _ _ l0 _ _ l1 t120 _ ?side1 ?side2 ?side3 ?side4 A3.out).mono ?_); (case side1 => repeat (first | exact HR0.out | (with_reducible refine Kd.C_alloc ?_ _) | (with_reducible refine Kd.C_drewN ?_ _) | (with_reducible refine Kd.C_drew ?_))); (case side2 => exact HC0.out); (case side3 => repeat (first | exact HR1.out | (with_reducible refine Kd.C_alloc ?_ _) | (with_reducible refine Kd.C_drewN ?_ _) | (with_reducible refine Kd.C_drew ?_))); (case side4 => exact HC1.out); rintro e w4 ⟨rfl, hb⟩; refine ⟨_, rfl, ?_⟩; replace HB := Aside0.mk (below_step bl hb); (try clear hb); (try clear hb2); (try clear hk); (try clear hi)))
 go_ret
 exact ⟨zaa, bl⟩

end Go.Proofs.Ytaehlbbjbeibfaa.X
