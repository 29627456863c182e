-- Laid by xprint.py, a program of this session's, out of the translation.
import Derived.Test.YtjmbddgbojcpmaaDoorX0
import Derived.Test.YtjmbddgbojcpmaaDoorX1
import Derived.Test.YtjmbddgbojcpmaaDoorX3
import Derived.Test.YtjmbddgbojcpmaaDoorX9
import Derived.Test.YtjmbddgbojcpmaaDoorX11
import Derived.Test.YtjmbddgbojcpmaaDoorX12
import Derived.Test.YtjmbddgbojcpmaaDoorX16
namespace Go.Proofs.YtjmbddgbojcpmaaDoor.X
open Go.RowKit Go.Proofs.YtjmbddgbojcpmaaDoorW.PrintWords Go.Proofs.YtjmbddgbojcpmaaDoorW.PrintLast Go.Proofs.YtjmbddgbojcpmaaDoorW.PrintMore
attribute [local go_sem] max2_int min2_int max_two min_two max_three min_three max_four min_four x_isSome x_str_gtr x_str_leq x_str_geq   -- for this text's walks alone
set_option linter.unusedVariables false
set_option linter.unusedSimpArgs false

/-! ### archivistlaw13_EntryPuts: function 6 -/
mutual
def archivistlaw13_EntryPuts.l0 : Nat → List (S29) → Bool → List (S25) → ByteArray → Int → Option (Bool)
 | 0, _, _, _, _, _ => none
 | k + 1, x0, x3, x4, x5, x6 => if x6 < (x0.length : Int) then (archivistlaw13_EntryPuts.j1 k x0 x3 x4 x5 x6 (decide (x6 < 8))) else (archivistlaw13_EntryPuts.j1 k x0 x3 x4 x5 x6 false)
def archivistlaw13_EntryPuts.j1 : Nat → List (S29) → Bool → List (S25) → ByteArray → Int → Bool → Option (Bool)
 | 0, _, _, _, _, _, _ => none
 | k + 1, x0, x3, x4, x5, x6, x22 => if x22 = true then (if 0 ≤ x6 then (if x6 < (x0.length : Int) then ((archivistlaw13_Item_item.f k ((rd_T29 x0 x6).f0.f0) ((rd_T29 x0 x6).f0.f1) ((rd_T29 x0 x6).f0.f2) true ((rd_T29 x0 x6).f2) ((rd_T29 x0 x6).f3) ((rd_T29 x0 x6).f4)).bind fun bt451 => (if x4.length < 2932031007402 then ((archivistlaw13_Item_item.f k ((rd_T29 x0 x6).f0.f0) ((rd_T29 x0 x6).f0.f1) ((rd_T29 x0 x6).f0.f2) true ((rd_T29 x0 x6).f2) ((rd_T29 x0 x6).f3) ((rd_T29 x0 x6).f4)).bind fun bt459 => ((entry_Put.f k bt459.1 bt459.2.1 bt459.2.2).bind fun t464 => (if x5.size + t464.size ≤ 9223372036854775807 then (archivistlaw13_EntryPuts.l0 k x0 x3 (x4 ++ [(⟨bt451.1, bt451.2.1, bt451.2.2⟩ : S25)]) (x5 ++ t464) (wrap64 (x6 + 1))) else (none)))) else (none))) else (none)) else (none)) else (archivistlaw13_EntryPuts.l1 k x3 x4 x5 0)
def archivistlaw13_EntryPuts.l1 : Nat → Bool → List (S25) → ByteArray → Int → Option (Bool)
 | 0, _, _, _, _ => none
 | k + 1, x3, x4, x5, x8 => if x8 < (x4.length : Int) then ((entry_Parse.f k x5).bind fun bt465 => (if bt465.2.2.2.2 = true then (if bt465.2.2.2.1 < 1 then (none) else (if bt465.2.2.2.1 > (x5.size : Int) then (none) else (if 0 ≤ x8 then ((entry_Same.f k bt465.1 bt465.2.1 bt465.2.2.1 ((rd_T25 x4 x8).f0) ((rd_T25 x4 x8).f1) ((rd_T25 x4 x8).f2)).bind fun t474 => (if t474 = true then (if 0 ≤ bt465.2.2.2.1 then (if bt465.2.2.2.1 ≤ (x5.size : Int) then (archivistlaw13_EntryPuts.l1 k x3 x4 (x5.extract (bt465.2.2.2.1 : Int).toNat x5.size) (wrap64 (x8 + 1))) else (none)) else (none)) else (none))) else (none)))) else (none))) else (if x3 = true then (some (x5.toList == ([] : List UInt8))) else (none))
end
def archivistlaw13_EntryPuts.f (k : Nat) (l0 : List (S29)) : Option (Bool) := (archivistlaw13_examples.f k).bind fun t448 => (if t448 = true then (archivistlaw13_EntryPuts.l0 k l0 t448 ([] : List (S25)) (⟨#[]⟩ : ByteArray) 0) else (none))
theorem archivistlaw13_EntryPuts.mono_l : ∀ k, (∀ y0 y1 y2 y3 y4, LeO (archivistlaw13_EntryPuts.l0 k y0 y1 y2 y3 y4) (archivistlaw13_EntryPuts.l0 (k + 1) y0 y1 y2 y3 y4)) ∧ (∀ y0 y1 y2 y3 y4 y5, LeO (archivistlaw13_EntryPuts.j1 k y0 y1 y2 y3 y4 y5) (archivistlaw13_EntryPuts.j1 (k + 1) y0 y1 y2 y3 y4 y5)) ∧ (∀ y0 y1 y2 y3, LeO (archivistlaw13_EntryPuts.l1 k y0 y1 y2 y3) (archivistlaw13_EntryPuts.l1 (k + 1) y0 y1 y2 y3))
 | 0 => ⟨fun _ _ _ _ _ r h => by simp [archivistlaw13_EntryPuts.l0] at h, fun _ _ _ _ _ _ r h => by simp [archivistlaw13_EntryPuts.j1] at h, fun _ _ _ _ r h => by simp [archivistlaw13_EntryPuts.l1] at h⟩
 | k + 1 => by
  obtain ⟨ih0, ih1, ih2⟩ := archivistlaw13_EntryPuts.mono_l k
  refine ⟨?_, ?_, ?_⟩
  ·intro y0 y1 y2 y3 y4
   unfold archivistlaw13_EntryPuts.l0
   repeat' first
   | (with_reducible exact ih0 _ _ _ _ _)
   | (with_reducible exact ih1 _ _ _ _ _ _)
   | (with_reducible exact ih2 _ _ _ _)
   | (with_reducible exact archivistlaw13_Item_item.mono _ _ _ _ _ _ _ _)
   | (with_reducible exact archivistlaw13_examples.mono _)
   | (with_reducible exact entry_Parse.mono _ _)
   | (with_reducible exact entry_Put.mono _ _ _ _)
   | (with_reducible exact entry_Same.mono _ _ _ _ _ _ _)
   | (with_reducible exact LeO.refl _)
   | (with_reducible exact LeO.none _)
   | (with_reducible refine LeO.ite ?_ ?_)
   | (with_reducible refine LeO.bind ?_ (fun _ => ?_))
   | exact ih0 _ _ _ _ _
   | exact ih1 _ _ _ _ _ _
   | exact ih2 _ _ _ _
   | exact archivistlaw13_Item_item.mono _ _ _ _ _ _ _ _
   | exact archivistlaw13_examples.mono _
   | exact entry_Parse.mono _ _
   | exact entry_Put.mono _ _ _ _
   | exact entry_Same.mono _ _ _ _ _ _ _
   | exact LeO.none _
   | refine LeO.ite ?_ ?_
   | refine LeO.bind ?_ (fun _ => ?_)
  ·intro y0 y1 y2 y3 y4 y5
   unfold archivistlaw13_EntryPuts.j1
   repeat' first
   | (with_reducible exact ih0 _ _ _ _ _)
   | (with_reducible exact ih1 _ _ _ _ _ _)
   | (with_reducible exact ih2 _ _ _ _)
   | (with_reducible exact archivistlaw13_Item_item.mono _ _ _ _ _ _ _ _)
   | (with_reducible exact archivistlaw13_examples.mono _)
   | (with_reducible exact entry_Parse.mono _ _)
   | (with_reducible exact entry_Put.mono _ _ _ _)
   | (with_reducible exact entry_Same.mono _ _ _ _ _ _ _)
   | (with_reducible exact LeO.refl _)
   | (with_reducible exact LeO.none _)
   | (with_reducible refine LeO.ite ?_ ?_)
   | (with_reducible refine LeO.bind ?_ (fun _ => ?_))
   | exact ih0 _ _ _ _ _
   | exact ih1 _ _ _ _ _ _
   | exact ih2 _ _ _ _
   | exact archivistlaw13_Item_item.mono _ _ _ _ _ _ _ _
   | exact archivistlaw13_examples.mono _
   | exact entry_Parse.mono _ _
   | exact entry_Put.mono _ _ _ _
   | exact entry_Same.mono _ _ _ _ _ _ _
   | exact LeO.none _
   | refine LeO.ite ?_ ?_
   | refine LeO.bind ?_ (fun _ => ?_)
  ·intro y0 y1 y2 y3
   unfold archivistlaw13_EntryPuts.l1
   repeat' first
   | (with_reducible exact ih0 _ _ _ _ _)
   | (with_reducible exact ih1 _ _ _ _ _ _)
   | (with_reducible exact ih2 _ _ _ _)
   | (with_reducible exact archivistlaw13_Item_item.mono _ _ _ _ _ _ _ _)
   | (with_reducible exact archivistlaw13_examples.mono _)
   | (with_reducible exact entry_Parse.mono _ _)
   | (with_reducible exact entry_Put.mono _ _ _ _)
   | (with_reducible exact entry_Same.mono _ _ _ _ _ _ _)
   | (with_reducible exact LeO.refl _)
   | (with_reducible exact LeO.none _)
   | (with_reducible refine LeO.ite ?_ ?_)
   | (with_reducible refine LeO.bind ?_ (fun _ => ?_))
   | exact ih0 _ _ _ _ _
   | exact ih1 _ _ _ _ _ _
   | exact ih2 _ _ _ _
   | exact archivistlaw13_Item_item.mono _ _ _ _ _ _ _ _
   | exact archivistlaw13_examples.mono _
   | exact entry_Parse.mono _ _
   | exact entry_Put.mono _ _ _ _
   | exact entry_Same.mono _ _ _ _ _ _ _
   | exact LeO.none _
   | refine LeO.ite ?_ ?_
   | refine LeO.bind ?_ (fun _ => ?_)
theorem archivistlaw13_EntryPuts.mono : ∀ a0 k, LeO (archivistlaw13_EntryPuts.f k a0) (archivistlaw13_EntryPuts.f (k + 1) a0) := by
 intro a0 k
 obtain ⟨ih0, ih1, ih2⟩ := archivistlaw13_EntryPuts.mono_l k
 unfold archivistlaw13_EntryPuts.f
 repeat' first
   | (with_reducible exact ih0 _ _ _ _ _)
   | (with_reducible exact ih1 _ _ _ _ _ _)
   | (with_reducible exact ih2 _ _ _ _)
   | (with_reducible exact archivistlaw13_Item_item.mono _ _ _ _ _ _ _ _)
   | (with_reducible exact archivistlaw13_examples.mono _)
   | (with_reducible exact entry_Parse.mono _ _)
   | (with_reducible exact entry_Put.mono _ _ _ _)
   | (with_reducible exact entry_Same.mono _ _ _ _ _ _ _)
   | (with_reducible exact LeO.refl _)
   | (with_reducible exact LeO.none _)
   | (with_reducible refine LeO.ite ?_ ?_)
   | (with_reducible refine LeO.bind ?_ (fun _ => ?_))
   | exact ih0 _ _ _ _ _
   | exact ih1 _ _ _ _ _ _
   | exact ih2 _ _ _ _
   | exact archivistlaw13_Item_item.mono _ _ _ _ _ _ _ _
   | exact archivistlaw13_examples.mono _
   | exact entry_Parse.mono _ _
   | exact entry_Put.mono _ _ _ _
   | exact entry_Same.mono _ _ _ _ _ _ _
   | exact LeO.none _
   | refine LeO.ite ?_ ?_
   | refine LeO.bind ?_ (fun _ => ?_)
def archivistlaw13_EntryPuts.T17 : Bool × List (List Nat × List Nat) := (true, [([], []), ([0], [0]), ([1], [1]), ([2], [2]), ([3, 2], [2, 3]), ([2, 4], [2, 4]), ([5, 2], [5]), ([6], [6]), ([6], [6]), ([8, 6], [6, 8]), ([7, 9, 6], [6, 7, 9]), ([6, 10], [6, 10]), ([11, 6], [11]), ([12], [12]), ([12], [12]), ([12], [12]), ([14, 15, 12], [12, 14, 15]), ([16, 12], [12, 16]), ([13, 17, 12, 12], [12, 13, 17]), ([18, 12], [12, 18]), ([12, 19], [12, 19])])
def archivistlaw13_EntryPuts.B17 : List Nat := [0, 1, 3, 7, 15, 31, 63, 127, 127, 383, 1023, 2047, 4095, 8191, 8191, 8191, 57343, 122879, 262143, 524287, 1048575]
theorem archivistlaw13_EntryPuts.tab17 : rtab .any (opsOf Tryd.f6 17) = archivistlaw13_EntryPuts.T17 := by kernel_rfl
theorem archivistlaw13_EntryPuts.bits17 : waitsOk archivistlaw13_EntryPuts.T17.2 archivistlaw13_EntryPuts.B17 = true := by kernel_rfl
set_option maxHeartbeats 8000000 in
set_option maxRecDepth 100000 in
theorem archivistlaw13_EntryPuts.calls (k : Nat) (A0 : Option Addr) (c0 : Nat) (l0 : List (S29)) (r : Bool) (w : World) (hr0 : Kd.C k29 w A0 l0.length l0) (hc0 : l0.length ≤ c0) (h : archivistlaw13_EntryPuts.f k l0 = some r) (hLd : Laid w) :
  Calls Tryd.prog 6 #[.slice A0 l0.length c0] w fun e w' => e = .returned (.bool r) ∧ Below w.heap.size w w' := by
 have hu29 := Tryd.underlying29
 have hu25 := Tryd.underlying25
 have HR0 := Aside0.mk hr0
 have HC0 := Aside0.mk hc0
 clear hr0 hc0
 have HLd := Aside0.mk hLd
 clear hLd
 have HB := Aside0.mk (Below.refl w.heap.size w)
 have H : ((archivistlaw13_examples.f k).bind fun t448 => (if t448 = true then (archivistlaw13_EntryPuts.l0 k l0 t448 ([] : List (S25)) (⟨#[]⟩ : ByteArray) 0) else (none))) = some r := h
 clear h
 replace H := Option.bind_eq_some_iff.mp H
 obtain ⟨t448, A20, H⟩ := H
 replace H : (if t448 = true then (archivistlaw13_EntryPuts.l0 k l0 t448 ([] : List (S25)) (⟨#[]⟩ : ByteArray) 0) else (none)) = some r := H
 have A2 := Aside0.mk A20
 clear A20
 by_cases c3 : t448 = true
 ·subst c3
  have H1 : (archivistlaw13_EntryPuts.l0 k l0 true ([] : List (S25)) (⟨#[]⟩ : ByteArray) 0) = some r := by rw [if_pos rfl] at H; exact H
  clear H
  have H := H1
  clear H1
  have H' := Aside0.mk H
  clear H
  go_enter Tryd.func6, Tryd.ntmps6
  go_wp2_with (first | ((with_reducible refine gate_callee (f := 7) rfl ?_); refine goesL_ (some 12) rfl rfl Tryd.func7 (by kernel_rfl) rfl #[] rfl ml ?_; (with_reducible refine (archivistlaw13_examples.calls k  true _ A2.out ?sideLd).mono ?_); (case sideLd => exact laid_below HLd.out bl); rintro e w4 ⟨rfl, hb⟩; refine ⟨_, rfl, ?_⟩; have n0_ := Aside0.mk (below_step bl hb); clear HB; have HB := n0_; clear n0_; (try clear hb); (try clear hb2); (try clear hk); (try clear hi)))
  go_loopg [4, 5, 6] k (fun kq v4 v5 v6 w' => ∃ (x4_1 : List (S25)) (x5_1 : ByteArray) (x6_1 : Int), v5 = .string x5_1 ∧ v6 = .int .i64 x6_1 ∧ Aside0 (archivistlaw13_EntryPuts.l0 kq l0 true x4_1 x5_1 x6_1 = some r) ∧ Aside0 (kq ≤ k) ∧ Aside0 (Kd.N k25 25 w' w.heap.size (fun _ => True) v4 x4_1) ∧ Aside0 (Below w.heap.size w w'))
  case atStart => exact ⟨(([] : List (S25))), ((⟨#[]⟩ : ByteArray)), (0), rs, rs, H', ⟨Nat.le_refl _⟩, ⟨by first | exact Kd.S_nil _ _ _ _ _ | exact Kd.N_nil _ _ _ _ _ | exact Kd.V_nil _ _ _ _ _ | exact Kd.Q_nil _ _ _ _ _ | exact Kd.R_nil _ _ _ _ _⟩, ⟨bl⟩⟩
  case round =>
   clear H'
   try clear p2
   try clear c3
   obtain ⟨x4_1, x5_1, x6_1, rfl, rfl, HA, HK1, HO_4, HB⟩ := hrel
   cases gk with
   | zero => exact absurd HA.out (by simp [archivistlaw13_EntryPuts.l0])
   | succ k1 =>
    have H := HA.out
    clear HA
    simp only [archivistlaw13_EntryPuts.l0] at H
    have HC5 := Aside0.mk H
    clear H
    go_upto_region 7 with (fail)
    go_cut [22] (fun v22 wc => ∃ (kq : Nat) (x22_4 : Bool), v22 = .bool x22_4 ∧ Aside0 (archivistlaw13_EntryPuts.j1 kq l0 true x4_1 x5_1 x6_1 x22_4 = some r) ∧ Aside0 (kq ≤ k1) ∧ Aside0 (Kd.N k25 25 wc w.heap.size (fun _ => True) u4 x4_1) ∧ Aside0 (Below w.heap.size w wc))
    case first =>
     have H := HC5.out
     clear HC5
     by_cases c6 : x6_1 < (l0.length : Int)
     ·rw [if_pos c6] at H
      have c6b0 := decide_eq_true c6
      clear c6
      (first | rw [c6b0] | (simp only [i64_w, i32_w]; rw [c6b0]) | skip)
      have H' := Aside0.mk H
      clear H
      go_wp2
      go_meet
      case rel => exact ⟨_, (decide (x6_1 < 8)), rs, H', ⟨by have := HK1.out; first | omega | exact Nat.le_refl _⟩, ⟨by (with_reducible repeat (first | apply Kd.N_alloc | apply Kd.N_drewN | apply Kd.N_drew)); exact HO_4.out⟩, ⟨bl⟩⟩
     ·rw [if_neg c6] at H
      have c6b0 : decide (x6_1 < (l0.length : Int)) = false := decide_eq_false c6
      clear c6
      (first | rw [c6b0] | (simp only [i64_w, i32_w]; rw [c6b0]) | skip)
      have H' := Aside0.mk H
      clear H
      go_wp2
      go_meet
      case rel => exact ⟨_, (false), rs, H', ⟨by have := HK1.out; first | omega | exact Nat.le_refl _⟩, ⟨by (with_reducible repeat (first | apply Kd.N_alloc | apply Kd.N_drewN | apply Kd.N_drew)); exact HO_4.out⟩, ⟨bl⟩⟩
    case rest =>
     clear HC5
     try clear p2
     try clear c3
     try clear c6
     try clear c6b0
     try clear p2
     obtain ⟨kq, x22_4, rfl, HA, HJ4, HO_4, HB⟩ := hcut
     cases kq with
     | zero => exact absurd HA.out (by simp [archivistlaw13_EntryPuts.j1])
     | succ kj4 =>
      have H := HA.out
      clear HA
      simp only [archivistlaw13_EntryPuts.j1] at H
      by_cases c7 : x22_4 = true
      ·subst c7
       have H1 : (if 0 ≤ x6_1 then (if x6_1 < (l0.length : Int) then ((archivistlaw13_Item_item.f kj4 ((rd_T29 l0 x6_1).f0.f0) ((rd_T29 l0 x6_1).f0.f1) ((rd_T29 l0 x6_1).f0.f2) true ((rd_T29 l0 x6_1).f2) ((rd_T29 l0 x6_1).f3) ((rd_T29 l0 x6_1).f4)).bind fun bt451 => (if x4_1.length < 2932031007402 then ((archivistlaw13_Item_item.f kj4 ((rd_T29 l0 x6_1).f0.f0) ((rd_T29 l0 x6_1).f0.f1) ((rd_T29 l0 x6_1).f0.f2) true ((rd_T29 l0 x6_1).f2) ((rd_T29 l0 x6_1).f3) ((rd_T29 l0 x6_1).f4)).bind fun bt459 => ((entry_Put.f kj4 bt459.1 bt459.2.1 bt459.2.2).bind fun t464 => (if x5_1.size + t464.size ≤ 9223372036854775807 then (archivistlaw13_EntryPuts.l0 kj4 l0 true (x4_1 ++ [(⟨bt451.1, bt451.2.1, bt451.2.2⟩ : S25)]) (x5_1 ++ t464) (wrap64 (x6_1 + 1))) else (none)))) else (none))) else (none)) else (none)) = some r := by rw [if_pos rfl] at H; exact H
       clear H
       have H := H1
       clear H1
       by_cases c8 : 0 ≤ x6_1
       ·rw [if_pos c8] at H
        have c8b0 := decide_eq_true c8
        clear c8
        by_cases c9 : x6_1 < (l0.length : Int)
        ·rw [if_pos c9] at H
         have c9b0 := decide_eq_true c9
         clear c9
         replace H := Option.bind_eq_some_iff.mp H
         obtain ⟨⟨t451, t452, t455⟩, A100, H⟩ := H
         replace H : (if x4_1.length < 2932031007402 then ((archivistlaw13_Item_item.f kj4 ((rd_T29 l0 x6_1).f0.f0) ((rd_T29 l0 x6_1).f0.f1) ((rd_T29 l0 x6_1).f0.f2) true ((rd_T29 l0 x6_1).f2) ((rd_T29 l0 x6_1).f3) ((rd_T29 l0 x6_1).f4)).bind fun bt459 => ((entry_Put.f kj4 bt459.1 bt459.2.1 bt459.2.2).bind fun t464 => (if x5_1.size + t464.size ≤ 9223372036854775807 then (archivistlaw13_EntryPuts.l0 kj4 l0 true (x4_1 ++ [(⟨t451, t452, t455⟩ : S25)]) (x5_1 ++ t464) (wrap64 (x6_1 + 1))) else (none)))) else (none)) = some r := H
         have A10 := Aside0.mk A100
         clear A100
         by_cases c11 : x4_1.length < 2932031007402
         ·rw [if_pos c11] at H
          have LMc11 := Aside0.mk c11
          clear c11
          obtain ⟨y456, hy456⟩ : ∃ y_ : List (S25), y_ = (x4_1 ++ [(⟨t451, t452, t455⟩ : S25)]) := ⟨_, rfl⟩
          replace H : ((archivistlaw13_Item_item.f kj4 ((rd_T29 l0 x6_1).f0.f0) ((rd_T29 l0 x6_1).f0.f1) ((rd_T29 l0 x6_1).f0.f2) true ((rd_T29 l0 x6_1).f2) ((rd_T29 l0 x6_1).f3) ((rd_T29 l0 x6_1).f4)).bind fun bt459 => ((entry_Put.f kj4 bt459.1 bt459.2.1 bt459.2.2).bind fun t464 => (if x5_1.size + t464.size ≤ 9223372036854775807 then (archivistlaw13_EntryPuts.l0 kj4 l0 true y456 (x5_1 ++ t464) (wrap64 (x6_1 + 1))) else (none)))) = some r := by first | (rw [hy456]; with_reducible exact H) | (have H2_ := (Option.bind_some _ _).symm.trans H; rw [hy456]; with_reducible exact H2_) | (have H2_ := (Option.bind_some _ _).symm.trans H; with_reducible exact H2_) | with_reducible exact H | (rw [hy456]; exact H) | exact H
          have Ny456 := Aside0.mk hy456
          clear hy456
          replace H := Option.bind_eq_some_iff.mp H
          obtain ⟨⟨t459, t460, t463⟩, A120, H⟩ := H
          replace H : ((entry_Put.f kj4 t459 t460 t463).bind fun t464 => (if x5_1.size + t464.size ≤ 9223372036854775807 then (archivistlaw13_EntryPuts.l0 kj4 l0 true y456 (x5_1 ++ t464) (wrap64 (x6_1 + 1))) else (none))) = some r := H
          have A12 := Aside0.mk A120
          clear A120
          replace H := Option.bind_eq_some_iff.mp H
          obtain ⟨t464, A130, H⟩ := H
          replace H : (if x5_1.size + t464.size ≤ 9223372036854775807 then (archivistlaw13_EntryPuts.l0 kj4 l0 true y456 (x5_1 ++ t464) (wrap64 (x6_1 + 1))) else (none)) = some r := H
          have A13 := Aside0.mk A130
          clear A130
          by_cases c14 : x5_1.size + t464.size ≤ 9223372036854775807
          ·rw [if_pos c14] at H
           have c14b0 := eq_true c14
           have c14b1 : decide (x5_1.size + t464.size ≤ 9223372036854775807) = true := decide_eq_true c14
           try have c14b2 : (9223372036854775807 < x5_1.size + t464.size) = False := eq_false (Nat.not_lt.2 c14)
           have H' := Aside0.mk H
           clear H
           have p449 : 0 ≤ (x6_1 : Int) := od
           have q449 : x6_1 < (l0.length : Int) := od
           obtain ⟨ad449, A449_1, c449_1, A449_5, c449_5, e449, hx449_0, hx449_1, hx449_2, hx449_3, hx449_4, hx449_5, hx449_6, hl449_1, hi449_1, hl449_5, hi449_5⟩ := at_T29 HR0.out x6_1 p449 q449
           cases e449
           replace hx449_0 := cu HB.out hx449_0
           replace hx449_1 := cu HB.out hx449_1
           replace hx449_2 := cu HB.out hx449_2
           replace hx449_3 := cu HB.out hx449_3
           replace hx449_4 := cu HB.out hx449_4
           replace hx449_5 := cu HB.out hx449_5
           replace hx449_6 := cu HB.out hx449_6
           have HR449_1 := Aside0.mk hi449_1
           have HC449_1 := Aside0.mk hl449_1
           clear hi449_1 hl449_1
           have HR449_5 := Aside0.mk hi449_5
           have HC449_5 := Aside0.mk hl449_5
           clear hi449_5 hl449_5
           replace p449 := eq_true p449
           replace q449 := eq_true q449
           go_wp2_with (first | ((with_reducible refine gate_dst (N := 7) rfl ?_); (try (refine gate_guard (by rfl) ?_; dsimp only)); refine box_event ?hg (N := 7) ?hd (cs := #[.int .i64 0, .slice none 0 0, .string (⟨#[]⟩ : ByteArray), .bool false, .int .i8 0, .slice none 0 0, .int .u8 0]) (t := 29) ?hr ?_; (case hd => rfl); (case hg => rfl); (case hr => first | (go_simp; done) | (go_simp; rfl)); intro gb450 hg w15 hbox hb; have n0_ := Aside0.mk (Kd.N_below (Kd.N_elderB (by (with_reducible repeat (first | apply Kd.N_alloc | apply Kd.N_drewN | apply Kd.N_drew)); exact HO_4.out) gb450 (Nat.le_of_eq hg.symm)) hb); have n1_ := Aside0.mk (below_step bl hb); have n2_ := Aside0.mk (hbox); have n3_ := Aside0.mk ((by rw [hg]; exact (below_size bl) : w.heap.size ≤ gb450)); have n4_ := Aside0.mk ((by rw [hg]; exact (below_size bl) : w.heap.size ≤ gb450)); clear HO_4; clear HB; have HO_4 := n0_; have HB := n1_; have BK450 := n2_; have GW450 := n3_; have GE450 := n4_; clear n0_ n1_ n2_ n3_ n4_; clear hb hbox hg; have hcz16_0 : w15.cell? ⟨gb450, 0, none⟩ = some (.int .i64 0) := (blk_cell BK450.out 0).trans rfl; have hcz16_1 : w15.cell? ⟨gb450, 1, none⟩ = some (.slice none 0 0) := (blk_cell BK450.out 1).trans rfl; have hcz16_2 : w15.cell? ⟨gb450, 2, none⟩ = some (.string (⟨#[]⟩ : ByteArray)) := (blk_cell BK450.out 2).trans rfl; have hcz16_3 : w15.cell? ⟨gb450, 3, none⟩ = some (.bool false) := (blk_cell BK450.out 3).trans rfl; have hcz16_4 : w15.cell? ⟨gb450, 4, none⟩ = some (.int .i8 0) := (blk_cell BK450.out 4).trans rfl; have hcz16_5 : w15.cell? ⟨gb450, 5, none⟩ = some (.slice none 0 0) := (blk_cell BK450.out 5).trans rfl; have hcz16_6 : w15.cell? ⟨gb450, 6, none⟩ = some (.int .u8 0) := (blk_cell BK450.out 6).trans rfl; have hfz16_0 := blk_frozen BK450.out 0; have hfz16_1 := blk_frozen BK450.out 1; have hfz16_2 := blk_frozen BK450.out 2; have hfz16_3 := blk_frozen BK450.out 3; have hfz16_4 := blk_frozen BK450.out 4; have hfz16_5 := blk_frozen BK450.out 5; have hfz16_6 := blk_frozen BK450.out 6) | ((with_reducible refine gate_store (t := 29) (p := 7) rfl ?_); refine store_event (t := 29) (p := 7) (v := ?vo_w17) (w1 := (((((((w15.setCell ⟨gb450, 0, none⟩ (.int .i64 ((rd_T29 l0 x6_1).f0.f0))).setCell ⟨gb450, 1, none⟩ (.slice A449_1 ((rd_T29 l0 x6_1).f0.f1).length c449_1)).setCell ⟨gb450, 2, none⟩ (.string ((rd_T29 l0 x6_1).f0.f2))).setCell ⟨gb450, 3, none⟩ (.bool ((rd_T29 l0 x6_1).f1))).setCell ⟨gb450, 4, none⟩ (.int .i8 ((rd_T29 l0 x6_1).f2))).setCell ⟨gb450, 5, none⟩ (.slice A449_5 ((rd_T29 l0 x6_1).f3).length c449_5)).setCell ⟨gb450, 6, none⟩ (.int .u8 ((rd_T29 l0 x6_1).f4)))) ?hg ?ho ?hn ?hr ?_; (case ho => rfl); (case hg => rfl); (case hn => rfl); (case hr => first | (go_simp; done) | (go_simp; rfl)); intro w17 hw; have n0_ : Aside0 (Kd.N k25 25 w17 w.heap.size (fun k_ => k_ ≠ gb450) u4 x4_1) := ⟨(by rw [hw]; exact (by (with_reducible repeat (first | apply Kd.N_alloc | apply Kd.N_drewN | apply Kd.N_drew)); exact Kd.N_mono (Kd.N_far (p := ⟨gb450, 6, none⟩) (Kd.N_far (p := ⟨gb450, 5, none⟩) (Kd.N_far (p := ⟨gb450, 4, none⟩) (Kd.N_far (p := ⟨gb450, 3, none⟩) (Kd.N_far (p := ⟨gb450, 2, none⟩) (Kd.N_far (p := ⟨gb450, 1, none⟩) (Kd.N_far (p := ⟨gb450, 0, none⟩) (Kd.N_mono HO_4.out (fun k_ hk => (⟨hk, hk.2⟩ : _ ∧ k_ ≠ gb450))) (fun _ hk => hk.2) (.int .i64 ((rd_T29 l0 x6_1).f0.f0))) (fun _ hk => hk.2) (.slice A449_1 ((rd_T29 l0 x6_1).f0.f1).length c449_1)) (fun _ hk => hk.2) (.string ((rd_T29 l0 x6_1).f0.f2))) (fun _ hk => hk.2) (.bool ((rd_T29 l0 x6_1).f1))) (fun _ hk => hk.2) (.int .i8 ((rd_T29 l0 x6_1).f2))) (fun _ hk => hk.2) (.slice A449_5 ((rd_T29 l0 x6_1).f3).length c449_5)) (fun _ hk => hk.2) (.int .u8 ((rd_T29 l0 x6_1).f4))) (fun _ hk => hk.1.2)))⟩; have n1_ : Aside0 (w17.heap[gb450]? = some (.cells #[.int .i64 ((rd_T29 l0 x6_1).f0.f0), .slice A449_1 ((rd_T29 l0 x6_1).f0.f1).length c449_1, .string ((rd_T29 l0 x6_1).f0.f2), .bool ((rd_T29 l0 x6_1).f1), .int .i8 ((rd_T29 l0 x6_1).f2), .slice A449_5 ((rd_T29 l0 x6_1).f3).length c449_5, .int .u8 ((rd_T29 l0 x6_1).f4)] 29 (0, 0))) := ⟨(by rw [hw]; exact (by (with_reducible repeat (first | refine blk_drewN ?_ _ | refine blk_drew ?_ | refine blk_alloc ?_ _)); refine blk_put (cs := #[.int .i64 ((rd_T29 l0 x6_1).f0.f0), .slice A449_1 ((rd_T29 l0 x6_1).f0.f1).length c449_1, .string ((rd_T29 l0 x6_1).f0.f2), .bool ((rd_T29 l0 x6_1).f1), .int .i8 ((rd_T29 l0 x6_1).f2), .slice A449_5 ((rd_T29 l0 x6_1).f3).length c449_5, .int .u8 0]) ?_ 6 _ rfl; (with_reducible repeat (first | refine blk_drewN ?_ _ | refine blk_drew ?_ | refine blk_alloc ?_ _)); refine blk_put (cs := #[.int .i64 ((rd_T29 l0 x6_1).f0.f0), .slice A449_1 ((rd_T29 l0 x6_1).f0.f1).length c449_1, .string ((rd_T29 l0 x6_1).f0.f2), .bool ((rd_T29 l0 x6_1).f1), .int .i8 ((rd_T29 l0 x6_1).f2), .slice none 0 0, .int .u8 0]) ?_ 5 _ rfl; (with_reducible repeat (first | refine blk_drewN ?_ _ | refine blk_drew ?_ | refine blk_alloc ?_ _)); refine blk_put (cs := #[.int .i64 ((rd_T29 l0 x6_1).f0.f0), .slice A449_1 ((rd_T29 l0 x6_1).f0.f1).length c449_1, .string ((rd_T29 l0 x6_1).f0.f2), .bool ((rd_T29 l0 x6_1).f1), .int .i8 0, .slice none 0 0, .int .u8 0]) ?_ 4 _ rfl; (with_reducible repeat (first | refine blk_drewN ?_ _ | refine blk_drew ?_ | refine blk_alloc ?_ _)); refine blk_put (cs := #[.int .i64 ((rd_T29 l0 x6_1).f0.f0), .slice A449_1 ((rd_T29 l0 x6_1).f0.f1).length c449_1, .string ((rd_T29 l0 x6_1).f0.f2), .bool false, .int .i8 0, .slice none 0 0, .int .u8 0]) ?_ 3 _ rfl; (with_reducible repeat (first | refine blk_drewN ?_ _ | refine blk_drew ?_ | refine blk_alloc ?_ _)); refine blk_put (cs := #[.int .i64 ((rd_T29 l0 x6_1).f0.f0), .slice A449_1 ((rd_T29 l0 x6_1).f0.f1).length c449_1, .string (⟨#[]⟩ : ByteArray), .bool false, .int .i8 0, .slice none 0 0, .int .u8 0]) ?_ 2 _ rfl; (with_reducible repeat (first | refine blk_drewN ?_ _ | refine blk_drew ?_ | refine blk_alloc ?_ _)); refine blk_put (cs := #[.int .i64 ((rd_T29 l0 x6_1).f0.f0), .slice none 0 0, .string (⟨#[]⟩ : ByteArray), .bool false, .int .i8 0, .slice none 0 0, .int .u8 0]) ?_ 1 _ rfl; (with_reducible repeat (first | refine blk_drewN ?_ _ | refine blk_drew ?_ | refine blk_alloc ?_ _)); refine blk_put (cs := #[.int .i64 0, .slice none 0 0, .string (⟨#[]⟩ : ByteArray), .bool false, .int .i8 0, .slice none 0 0, .int .u8 0]) ?_ 0 _ rfl; (with_reducible repeat (first | refine blk_drewN ?_ _ | refine blk_drew ?_ | refine blk_alloc ?_ _)); exact BK450.out))⟩; have n2_ : Aside0 (Below w.heap.size w w17) := ⟨(by rw [hw]; exact (by repeat (first | (with_reducible first | exact HB.out | apply below_alloc | apply pw_below_drewN | apply below_drew1 | refine below_set ?_ GE450.out) | exact HB.out)))⟩; clear hw; clear HO_4; clear BK450; clear HB; have HO_4 := n0_; have BK450 := n1_; have HB := n2_; clear n0_ n1_ n2_; have hcz18_0 : w17.cell? ⟨gb450, 0, none⟩ = some (.int .i64 ((rd_T29 l0 x6_1).f0.f0)) := (blk_cell BK450.out 0).trans rfl; have hcz18_1 : w17.cell? ⟨gb450, 1, none⟩ = some (.slice A449_1 ((rd_T29 l0 x6_1).f0.f1).length c449_1) := (blk_cell BK450.out 1).trans rfl; have hcz18_2 : w17.cell? ⟨gb450, 2, none⟩ = some (.string ((rd_T29 l0 x6_1).f0.f2)) := (blk_cell BK450.out 2).trans rfl; have hcz18_3 : w17.cell? ⟨gb450, 3, none⟩ = some (.bool ((rd_T29 l0 x6_1).f1)) := (blk_cell BK450.out 3).trans rfl; have hcz18_4 : w17.cell? ⟨gb450, 4, none⟩ = some (.int .i8 ((rd_T29 l0 x6_1).f2)) := (blk_cell BK450.out 4).trans rfl; have hcz18_5 : w17.cell? ⟨gb450, 5, none⟩ = some (.slice A449_5 ((rd_T29 l0 x6_1).f3).length c449_5) := (blk_cell BK450.out 5).trans rfl; have hcz18_6 : w17.cell? ⟨gb450, 6, none⟩ = some (.int .u8 ((rd_T29 l0 x6_1).f4)) := (blk_cell BK450.out 6).trans rfl; have hfz18_0 := blk_frozen BK450.out 0; have hfz18_1 := blk_frozen BK450.out 1; have hfz18_2 := blk_frozen BK450.out 2; have hfz18_3 := blk_frozen BK450.out 3; have hfz18_4 := blk_frozen BK450.out 4; have hfz18_5 := blk_frozen BK450.out 5; have hfz18_6 := blk_frozen BK450.out 6) | ((with_reducible refine gate_store (t := 4) (p := 29) rfl ?_); refine store_event (t := 4) (p := 29) (v := ?vo_w19) (w1 := (w17.setCell ⟨gb450, 3, none⟩ (.bool true))) ?hg ?ho ?hn ?hr ?_; (case ho => rfl); (case hg => rfl); (case hn => rfl); (case hr => first | (go_simp; done) | (go_simp; rfl)); intro w19 hw; have n0_ : Aside0 (Kd.N k25 25 w19 w.heap.size (fun k_ => k_ ≠ gb450) u4 x4_1) := ⟨(by rw [hw]; exact (by (with_reducible repeat (first | apply Kd.N_alloc | apply Kd.N_drewN | apply Kd.N_drew)); exact Kd.N_mono (Kd.N_far (p := ⟨gb450, 3, none⟩) (Kd.N_mono HO_4.out (fun k_ hk => (⟨hk, hk⟩ : _ ∧ k_ ≠ gb450))) (fun _ hk => hk.2) (.bool true)) (fun _ hk => hk.1)))⟩; have n1_ : Aside0 (w19.heap[gb450]? = some (.cells #[.int .i64 ((rd_T29 l0 x6_1).f0.f0), .slice A449_1 ((rd_T29 l0 x6_1).f0.f1).length c449_1, .string ((rd_T29 l0 x6_1).f0.f2), .bool true, .int .i8 ((rd_T29 l0 x6_1).f2), .slice A449_5 ((rd_T29 l0 x6_1).f3).length c449_5, .int .u8 ((rd_T29 l0 x6_1).f4)] 29 (0, 0))) := ⟨(by rw [hw]; exact (by (with_reducible repeat (first | refine blk_drewN ?_ _ | refine blk_drew ?_ | refine blk_alloc ?_ _)); refine blk_put (cs := #[.int .i64 ((rd_T29 l0 x6_1).f0.f0), .slice A449_1 ((rd_T29 l0 x6_1).f0.f1).length c449_1, .string ((rd_T29 l0 x6_1).f0.f2), .bool ((rd_T29 l0 x6_1).f1), .int .i8 ((rd_T29 l0 x6_1).f2), .slice A449_5 ((rd_T29 l0 x6_1).f3).length c449_5, .int .u8 ((rd_T29 l0 x6_1).f4)]) ?_ 3 _ rfl; (with_reducible repeat (first | refine blk_drewN ?_ _ | refine blk_drew ?_ | refine blk_alloc ?_ _)); exact BK450.out))⟩; have n2_ : Aside0 (Below w.heap.size w w19) := ⟨(by rw [hw]; exact (by repeat (first | (with_reducible first | exact HB.out | apply below_alloc | apply pw_below_drewN | apply below_drew1 | refine below_set ?_ GE450.out) | exact HB.out)))⟩; clear hw; clear HO_4; clear BK450; clear HB; have HO_4 := n0_; have BK450 := n1_; have HB := n2_; clear n0_ n1_ n2_; have hcz20_0 : w19.cell? ⟨gb450, 0, none⟩ = some (.int .i64 ((rd_T29 l0 x6_1).f0.f0)) := (blk_cell BK450.out 0).trans rfl; have hcz20_1 : w19.cell? ⟨gb450, 1, none⟩ = some (.slice A449_1 ((rd_T29 l0 x6_1).f0.f1).length c449_1) := (blk_cell BK450.out 1).trans rfl; have hcz20_2 : w19.cell? ⟨gb450, 2, none⟩ = some (.string ((rd_T29 l0 x6_1).f0.f2)) := (blk_cell BK450.out 2).trans rfl; have hcz20_3 : w19.cell? ⟨gb450, 3, none⟩ = some (.bool true) := (blk_cell BK450.out 3).trans rfl; have hcz20_4 : w19.cell? ⟨gb450, 4, none⟩ = some (.int .i8 ((rd_T29 l0 x6_1).f2)) := (blk_cell BK450.out 4).trans rfl; have hcz20_5 : w19.cell? ⟨gb450, 5, none⟩ = some (.slice A449_5 ((rd_T29 l0 x6_1).f3).length c449_5) := (blk_cell BK450.out 5).trans rfl; have hcz20_6 : w19.cell? ⟨gb450, 6, none⟩ = some (.int .u8 ((rd_T29 l0 x6_1).f4)) := (blk_cell BK450.out 6).trans rfl; have hfz20_0 := blk_frozen BK450.out 0; have hfz20_1 := blk_frozen BK450.out 1; have hfz20_2 := blk_frozen BK450.out 2; have hfz20_3 := blk_frozen BK450.out 3; have hfz20_4 := blk_frozen BK450.out 4; have hfz20_5 := blk_frozen BK450.out 5; have hfz20_6 := blk_frozen BK450.out 6) | ((with_reducible refine gate_callee (f := 8) rfl ?_); refine goesL_ (some 32) rfl rfl Tryd.func8 (by kernel_rfl) rfl #[.agg #[.int .i64 ((rd_T29 l0 x6_1).f0.f0), .slice A449_1 ((rd_T29 l0 x6_1).f0.f1).length c449_1, .string ((rd_T29 l0 x6_1).f0.f2), .bool true, .int .i8 ((rd_T29 l0 x6_1).f2), .slice A449_5 ((rd_T29 l0 x6_1).f3).length c449_5, .int .u8 ((rd_T29 l0 x6_1).f4)]] rfl ml ?_; (with_reducible refine (archivistlaw13_Item_item.calls kj4 ((rd_T29 l0 x6_1).f0.f0) (fun k_ => k_ < w.heap.size) _ _ ((rd_T29 l0 x6_1).f0.f1) ((rd_T29 l0 x6_1).f0.f2) true ((rd_T29 l0 x6_1).f2) _ _ ((rd_T29 l0 x6_1).f3) ((rd_T29 l0 x6_1).f4) t451 t452 t455 _ ?side1 ?side2 ?side3 A10.out).mono ?_); (case side1 => exact Kd.V_mk HC449_1.out (Kd.F_below (Kd.C_F k48_heap HR449_1.out) (by repeat (first | (with_reducible first | exact HB.out | apply below_alloc | apply pw_below_drewN | apply below_drew1 | refine below_set ?_ GE450.out) | exact HB.out)))); (case side2 => repeat (first | exact (Kd.C_below HR449_5.out HB.out) | (with_reducible refine Kd.C_alloc ?_ _) | (with_reducible refine Kd.C_drewN ?_ _) | (with_reducible refine Kd.C_drew ?_))); (case side3 => exact HC449_5.out); rintro e w21 ⟨v453, rfl, ho0, hb⟩; refine ⟨_, rfl, ?_⟩; have n0_ := Aside0.mk (Kd.N_below (by (with_reducible repeat (first | apply Kd.N_alloc | apply Kd.N_drewN | apply Kd.N_drew)); exact HO_4.out) hb); have n1_ := Aside0.mk (Kd.V_lower (Kd.V_mono (ok' := fun k_ => some k_ ≠ (u4 : Value).ownBlock ∧ k_ ≠ gb450) ho0 (fun k_ hk_ => ⟨Or.elim hk_ (fun hs_ => fun e_ => Nat.not_le.2 hs_ (Kd.N_base HO_4.out k_ e_.symm)) (fun hn_ => (Kd.fresh' (Kd.N_lt (by (with_reducible repeat (first | apply Kd.N_alloc | apply Kd.N_drewN | apply Kd.N_drew)); exact HO_4.out)) k_ hn_)), Or.elim hk_ (fun hs_ => fun e_ => Nat.not_le.2 hs_ (by rw [e_]; exact GW450.out)) (fun hn_ => (Kd.freshB (g := gb450) (o := .cells #[.int .i64 ((rd_T29 l0 x6_1).f0.f0), .slice A449_1 ((rd_T29 l0 x6_1).f0.f1).length c449_1, .string ((rd_T29 l0 x6_1).f0.f2), .bool true, .int .i8 ((rd_T29 l0 x6_1).f2), .slice A449_5 ((rd_T29 l0 x6_1).f3).length c449_5, .int .u8 ((rd_T29 l0 x6_1).f4)] 29 (0, 0)) (bz BK450.out) k_ hn_))⟩)) (below_size (by repeat (first | (with_reducible first | exact HB.out | apply below_alloc | apply pw_below_drewN | apply below_drew1 | refine below_set ?_ GE450.out) | exact HB.out)))); have n2_ := Aside0.mk (blk_below (g := gb450) (o := .cells #[.int .i64 ((rd_T29 l0 x6_1).f0.f0), .slice A449_1 ((rd_T29 l0 x6_1).f0.f1).length c449_1, .string ((rd_T29 l0 x6_1).f0.f2), .bool true, .int .i8 ((rd_T29 l0 x6_1).f2), .slice A449_5 ((rd_T29 l0 x6_1).f3).length c449_5, .int .u8 ((rd_T29 l0 x6_1).f4)] 29 (0, 0)) (bz BK450.out) hb); have n3_ := Aside0.mk (below_step (by repeat (first | (with_reducible first | exact HB.out | apply below_alloc | apply pw_below_drewN | apply below_drew1 | refine below_set ?_ GE450.out) | exact HB.out)) hb); clear HO_4; clear BK450; clear HB; have HO_4 := n0_; have HO454 := n1_; have BK450 := n2_; have HB := n3_; clear n0_ n1_ n2_ n3_; (try clear hb); (try clear hb2); (try clear hk); (try clear hi); (try clear ho0); obtain ⟨Ao23, co23, eo23⟩ := Kd.V_slice HO454.out; subst eo23) | ((with_reducible refine gate_builtin (b := .append) (xs := #[.tmp 30, .tmp 33]) rfl ?_); (try (refine gate_guard (by rfl) ?_; dsimp only)); at_builtin; refine Kd.N_append k25 (w0 := w) w.heap.size rfl (.tmp 30) (.tmp 33) 43 25 (.agg #[(.int .i64 0), (.slice none 0 0), (.string ⟨#[]⟩)]) 48 rfl Tryd.underlying43 info25 rfl (by decide) (by omega) u4 x4_1 (⟨t451, t452, t455⟩ : S25) [.int .i64 t451, .slice Ao23 t452.length co23, .string t455] (fun k_ => k_ ≠ gb450) (fun k_ => ((fun k_ => k_ ≠ gb450)) k_ ∧ some k_ ≠ (u4 : Value).ownBlock) rfl rfl ?aP (fun _ hk => hk) ?aF ?aO ?aB ?aS ?aL ?_; (case aP => exact (k25_mkF _ _ (⟨t451, t452, t455⟩ : S25) (Kd.V_reads' (Kd.V_mono (ok' := (fun k_ => ((fun k_ => k_ ≠ gb450)) k_ ∧ some k_ ≠ (u4 : Value).ownBlock)) (HO454.out) (fun k_ hk => ⟨hk.2, hk.1⟩))).2.1 (Kd.V_F (Kd.V_mono (ok' := (fun k_ => ((fun k_ => k_ ≠ gb450)) k_ ∧ some k_ ≠ (u4 : Value).ownBlock)) (HO454.out) (fun k_ hk => ⟨hk.2, hk.1⟩))))); (case aB => exact (by repeat (first | (with_reducible first | exact HB.out | apply below_alloc | apply pw_below_drewN | apply below_drew1 | refine below_set ?_ GE450.out) | exact HB.out))); (case aF => exact (fun k_ hk => Kd.freshB (g := gb450) (o := .cells #[.int .i64 ((rd_T29 l0 x6_1).f0.f0), .slice A449_1 ((rd_T29 l0 x6_1).f0.f1).length c449_1, .string ((rd_T29 l0 x6_1).f0.f2), .bool true, .int .i8 ((rd_T29 l0 x6_1).f2), .slice A449_5 ((rd_T29 l0 x6_1).f3).length c449_5, .int .u8 ((rd_T29 l0 x6_1).f4)] 29 (0, 0)) (bz BK450.out) k_ hk)); (case aO => exact (by (with_reducible repeat (first | apply Kd.N_alloc | apply Kd.N_drewN | apply Kd.N_drew)); exact HO_4.out)); (case aS => exact (below_size (by repeat (first | (with_reducible first | exact HB.out | apply below_alloc | apply pw_below_drewN | apply below_drew1 | refine below_set ?_ GE450.out) | exact HB.out)))); (case aL => have := LMc11.out; omega); intro v457 w22 ho hb hg hat; rw [← Ny456.out] at ho; have n0_ := Aside0.mk (blk_grown (g := gb450) (o := .cells #[.int .i64 ((rd_T29 l0 x6_1).f0.f0), .slice A449_1 ((rd_T29 l0 x6_1).f0.f1).length c449_1, .string ((rd_T29 l0 x6_1).f0.f2), .bool true, .int .i8 ((rd_T29 l0 x6_1).f2), .slice A449_5 ((rd_T29 l0 x6_1).f3).length c449_5, .int .u8 ((rd_T29 l0 x6_1).f4)] 29 (0, 0)) (bz BK450.out) hg (Kd.N_ne HO_4.out BK450.out (by decide))); have n1_ := Aside0.mk (Kd.V_afterv (ok := (fun k_ => k_ ≠ gb450)) (by (with_reducible repeat (first | apply Kd.V_alloc | apply Kd.V_drewN | apply Kd.V_drew)); exact Kd.V_mono HO454.out (fun _ hk => by first | exact ⟨hk.2, hk.1⟩ | grind)) hg hat); have n2_ := Aside0.mk (hb); have n3_ := Aside0.mk (ho); clear BK450; clear HO454; clear HB; clear HO_4; have BK450 := n0_; have HO454 := n1_; have HB := n2_; have HO458 := n3_; clear n0_ n1_ n2_ n3_; clear ho hb hg hat; have hcz24_0 : w22.cell? ⟨gb450, 0, none⟩ = some (.int .i64 ((rd_T29 l0 x6_1).f0.f0)) := (blk_cell BK450.out 0).trans rfl; have hcz24_1 : w22.cell? ⟨gb450, 1, none⟩ = some (.slice A449_1 ((rd_T29 l0 x6_1).f0.f1).length c449_1) := (blk_cell BK450.out 1).trans rfl; have hcz24_2 : w22.cell? ⟨gb450, 2, none⟩ = some (.string ((rd_T29 l0 x6_1).f0.f2)) := (blk_cell BK450.out 2).trans rfl; have hcz24_3 : w22.cell? ⟨gb450, 3, none⟩ = some (.bool true) := (blk_cell BK450.out 3).trans rfl; have hcz24_4 : w22.cell? ⟨gb450, 4, none⟩ = some (.int .i8 ((rd_T29 l0 x6_1).f2)) := (blk_cell BK450.out 4).trans rfl; have hcz24_5 : w22.cell? ⟨gb450, 5, none⟩ = some (.slice A449_5 ((rd_T29 l0 x6_1).f3).length c449_5) := (blk_cell BK450.out 5).trans rfl; have hcz24_6 : w22.cell? ⟨gb450, 6, none⟩ = some (.int .u8 ((rd_T29 l0 x6_1).f4)) := (blk_cell BK450.out 6).trans rfl; have hfz24_0 := blk_frozen BK450.out 0; have hfz24_1 := blk_frozen BK450.out 1; have hfz24_2 := blk_frozen BK450.out 2; have hfz24_3 := blk_frozen BK450.out 3; have hfz24_4 := blk_frozen BK450.out 4; have hfz24_5 := blk_frozen BK450.out 5; have hfz24_6 := blk_frozen BK450.out 6) | ((with_reducible refine gate_callee (f := 8) rfl ?_); refine goesL_ (some 37) rfl rfl Tryd.func8 (by kernel_rfl) rfl #[.agg #[.int .i64 ((rd_T29 l0 x6_1).f0.f0), .slice A449_1 ((rd_T29 l0 x6_1).f0.f1).length c449_1, .string ((rd_T29 l0 x6_1).f0.f2), .bool true, .int .i8 ((rd_T29 l0 x6_1).f2), .slice A449_5 ((rd_T29 l0 x6_1).f3).length c449_5, .int .u8 ((rd_T29 l0 x6_1).f4)]] rfl ml ?_; (with_reducible refine (archivistlaw13_Item_item.calls kj4 ((rd_T29 l0 x6_1).f0.f0) (fun k_ => k_ < w.heap.size) _ _ ((rd_T29 l0 x6_1).f0.f1) ((rd_T29 l0 x6_1).f0.f2) true ((rd_T29 l0 x6_1).f2) _ _ ((rd_T29 l0 x6_1).f3) ((rd_T29 l0 x6_1).f4) t459 t460 t463 _ ?side1 ?side2 ?side3 A12.out).mono ?_); (case side1 => exact Kd.V_mk HC449_1.out (Kd.F_below (Kd.C_F k48_heap HR449_1.out) (by repeat (first | (with_reducible first | exact HB.out | apply below_alloc | apply pw_below_drewN | apply below_drew1 | refine below_set ?_ GE450.out) | exact HB.out)))); (case side2 => repeat (first | exact (Kd.C_below HR449_5.out HB.out) | (with_reducible refine Kd.C_alloc ?_ _) | (with_reducible refine Kd.C_drewN ?_ _) | (with_reducible refine Kd.C_drew ?_))); (case side3 => exact HC449_5.out); rintro e w25 ⟨v461, rfl, ho0, hb⟩; refine ⟨_, rfl, ?_⟩; have n0_ := Aside0.mk (Kd.V_below (by (with_reducible repeat (first | apply Kd.V_alloc | apply Kd.V_drewN | apply Kd.V_drew)); exact HO454.out) hb); have n1_ := Aside0.mk (Kd.N_below (by (with_reducible repeat (first | apply Kd.N_alloc | apply Kd.N_drewN | apply Kd.N_drew)); exact HO458.out) hb); have n2_ := Aside0.mk (Kd.V_lower (Kd.V_mono (ok' := fun k_ => some k_ ≠ (v457 : Value).ownBlock ∧ k_ ≠ gb450) ho0 (fun k_ hk_ => ⟨Or.elim hk_ (fun hs_ => fun e_ => Nat.not_le.2 hs_ (Kd.N_base HO458.out k_ e_.symm)) (fun hn_ => (Kd.fresh' (Kd.N_lt (by (with_reducible repeat (first | apply Kd.N_alloc | apply Kd.N_drewN | apply Kd.N_drew)); exact HO458.out)) k_ hn_)), Or.elim hk_ (fun hs_ => fun e_ => Nat.not_le.2 hs_ (by rw [e_]; exact GW450.out)) (fun hn_ => (Kd.freshB (g := gb450) (o := .cells #[.int .i64 ((rd_T29 l0 x6_1).f0.f0), .slice A449_1 ((rd_T29 l0 x6_1).f0.f1).length c449_1, .string ((rd_T29 l0 x6_1).f0.f2), .bool true, .int .i8 ((rd_T29 l0 x6_1).f2), .slice A449_5 ((rd_T29 l0 x6_1).f3).length c449_5, .int .u8 ((rd_T29 l0 x6_1).f4)] 29 (0, 0)) (bz BK450.out) k_ hn_))⟩)) (below_size (by repeat (first | (with_reducible first | exact HB.out | apply below_alloc | apply pw_below_drewN | apply below_drew1 | refine below_set ?_ GE450.out) | exact HB.out)))); have n3_ := Aside0.mk (blk_below (g := gb450) (o := .cells #[.int .i64 ((rd_T29 l0 x6_1).f0.f0), .slice A449_1 ((rd_T29 l0 x6_1).f0.f1).length c449_1, .string ((rd_T29 l0 x6_1).f0.f2), .bool true, .int .i8 ((rd_T29 l0 x6_1).f2), .slice A449_5 ((rd_T29 l0 x6_1).f3).length c449_5, .int .u8 ((rd_T29 l0 x6_1).f4)] 29 (0, 0)) (bz BK450.out) hb); have n4_ := Aside0.mk (below_step (by repeat (first | (with_reducible first | exact HB.out | apply below_alloc | apply pw_below_drewN | apply below_drew1 | refine below_set ?_ GE450.out) | exact HB.out)) hb); clear HO454; clear HO458; clear BK450; clear HB; have HO454 := n0_; have HO458 := n1_; have HO462 := n2_; have BK450 := n3_; have HB := n4_; clear n0_ n1_ n2_ n3_ n4_; (try clear hb); (try clear hb2); (try clear hk); (try clear hi); (try clear ho0); obtain ⟨Ao26, co26, eo26⟩ := Kd.V_slice HO462.out; subst eo26) | ((with_reducible refine gate_callee (f := 9) rfl ?_); refine goesL_ (some 38) rfl rfl Tryd.func9 (by kernel_rfl) rfl #[.agg #[.int .i64 t459, .slice Ao26 t460.length co26, .string t463]] rfl ml ?_; (with_reducible refine (entry_Put.calls kj4 t459 _ _ t460 t463 t464 _ ?side1 ?side2 A13.out ?sideLd).mono ?_); (case sideLd => exact laid_below HLd.out bl); (case side1 => repeat (first | exact (Kd.V_reads' HO462.out).2.2 | (with_reducible refine Kd.C_alloc ?_ _) | (with_reducible refine Kd.C_drewN ?_ _) | (with_reducible refine Kd.C_drew ?_))); (case side2 => exact (Kd.V_reads' HO462.out).2.1); rintro e w27 ⟨rfl, hb⟩; refine ⟨_, rfl, ?_⟩; have n0_ := Aside0.mk (Kd.V_below (by (with_reducible repeat (first | apply Kd.V_alloc | apply Kd.V_drewN | apply Kd.V_drew)); exact HO454.out) hb); have n1_ := Aside0.mk (Kd.N_below (by (with_reducible repeat (first | apply Kd.N_alloc | apply Kd.N_drewN | apply Kd.N_drew)); exact HO458.out) hb); have n2_ := Aside0.mk (Kd.V_below (by (with_reducible repeat (first | apply Kd.V_alloc | apply Kd.V_drewN | apply Kd.V_drew)); exact HO462.out) hb); have n3_ := Aside0.mk (blk_below (g := gb450) (o := .cells #[.int .i64 ((rd_T29 l0 x6_1).f0.f0), .slice A449_1 ((rd_T29 l0 x6_1).f0.f1).length c449_1, .string ((rd_T29 l0 x6_1).f0.f2), .bool true, .int .i8 ((rd_T29 l0 x6_1).f2), .slice A449_5 ((rd_T29 l0 x6_1).f3).length c449_5, .int .u8 ((rd_T29 l0 x6_1).f4)] 29 (0, 0)) (bz BK450.out) hb); have n4_ := Aside0.mk (below_step (by repeat (first | (with_reducible first | exact HB.out | apply below_alloc | apply pw_below_drewN | apply below_drew1 | refine below_set ?_ GE450.out) | exact HB.out)) hb); clear HO454; clear HO458; clear HO462; clear BK450; clear HB; have HO454 := n0_; have HO458 := n1_; have HO462 := n2_; have BK450 := n3_; have HB := n4_; clear n0_ n1_ n2_ n3_ n4_; (try clear hb); (try clear hb2); (try clear hk); (try clear hi)))
           go_roundg kj4
           case measure => have := HK1.out; have := HJ4.out; omega
           case rel => exact ⟨(y456), (x5_1 ++ t464), (wrap64 (x6_1 + 1)), rs, rs, H', ⟨by have := HK1.out; have := HJ4.out; omega⟩, ⟨by (with_reducible repeat (first | apply Kd.N_alloc | apply Kd.N_drewN | apply Kd.N_drew)); exact Kd.N_mono HO458.out (fun _ hk => trivial)⟩, ⟨by repeat (first | (with_reducible first | exact HB.out | apply below_alloc | apply pw_below_drewN | apply below_drew1 | refine below_set ?_ GE450.out) | exact HB.out)⟩⟩
          ·rw [if_neg c14] at H
           exact absurd H (by simp)
         ·rw [if_neg c11] at H
          exact absurd H (by simp)
        ·rw [if_neg c9] at H
         exact absurd H (by simp)
       ·rw [if_neg c8] at H
        exact absurd H (by simp)
      ·replace c7 := Bool.eq_false_iff.mpr c7
       subst c7
       have H1 : (archivistlaw13_EntryPuts.l1 kj4 true x4_1 x5_1 0) = some r := by rw [if_neg (show ¬ (false = true) by decide)] at H; exact H
       clear H
       have H := H1
       clear H1
       have H' := Aside0.mk H
       clear H
       go_wp2
       go_loopg [5, 8] kj4 (fun kq v5 v8 w' => ∃ (x5_3 : ByteArray) (x8_3 : Int), v5 = .string x5_3 ∧ v8 = .int .i64 x8_3 ∧ Aside0 (archivistlaw13_EntryPuts.l1 kq true x4_1 x5_3 x8_3 = some r) ∧ Aside0 (kq ≤ kj4) ∧ Aside0 (Kd.N k25 25 w' w.heap.size (fun _ => True) u4 x4_1) ∧ Aside0 (Below w.heap.size w w'))
       case atStart => exact ⟨(x5_1), (0), rs, rs, H', ⟨Nat.le_refl _⟩, ⟨by (with_reducible repeat (first | apply Kd.N_alloc | apply Kd.N_drewN | apply Kd.N_drew)); exact HO_4.out⟩, ⟨bl⟩⟩
       case round =>
        clear H'
        try clear c1
        try clear p2
        try clear c3
        try clear c4
        try clear p4
        try clear q4
        try clear hx4
        try clear c6
        try clear c6b0
        try clear p6
        try clear c7
        try clear c8
        try clear c8b0
        try clear c9
        try clear c9b0
        try clear c11
        try clear c14
        try clear c14b0
        try clear c14b1
        try clear c14b2
        try clear hcz16_0
        try clear hcz16_1
        try clear hcz16_2
        try clear hcz16_3
        try clear hcz16_4
        try clear hcz16_5
        try clear hcz16_6
        try clear hcz18_0
        try clear hcz18_1
        try clear hcz18_2
        try clear hcz18_3
        try clear hcz18_4
        try clear hcz18_5
        try clear hcz18_6
        try clear hcz20_0
        try clear hcz20_1
        try clear hcz20_2
        try clear hcz20_3
        try clear hcz20_4
        try clear hcz20_5
        try clear hcz20_6
        try clear hcz24_0
        try clear hcz24_1
        try clear hcz24_2
        try clear hcz24_3
        try clear hcz24_4
        try clear hcz24_5
        try clear hcz24_6
        try clear hfz16_0
        try clear hfz16_1
        try clear hfz16_2
        try clear hfz16_3
        try clear hfz16_4
        try clear hfz16_5
        try clear hfz16_6
        try clear hfz18_0
        try clear hfz18_1
        try clear hfz18_2
        try clear hfz18_3
        try clear hfz18_4
        try clear hfz18_5
        try clear hfz18_6
        try clear hfz20_0
        try clear hfz20_1
        try clear hfz20_2
        try clear hfz20_3
        try clear hfz20_4
        try clear hfz20_5
        try clear hfz20_6
        try clear hfz24_0
        try clear hfz24_1
        try clear hfz24_2
        try clear hfz24_3
        try clear hfz24_4
        try clear hfz24_5
        try clear hfz24_6
        try clear hx449_0
        try clear hx449_1
        try clear hx449_2
        try clear hx449_3
        try clear hx449_4
        try clear hx449_5
        try clear hx449_6
        try clear p2
        try clear p449
        try clear q449
        obtain ⟨x5_3, x8_3, rfl, rfl, HA, HK3, HO_4, HB⟩ := hrel
        cases gk with
        | zero => exact absurd HA.out (by simp [archivistlaw13_EntryPuts.l1])
        | succ k3 =>
         have H := HA.out
         clear HA
         simp only [archivistlaw13_EntryPuts.l1] at H
         by_cases c28 : x8_3 < (x4_1.length : Int)
         ·rw [if_pos c28] at H
          have c28b0 := decide_eq_true c28
          clear c28
          replace H := Option.bind_eq_some_iff.mp H
          obtain ⟨⟨t465, t466, t469, t470, t471⟩, A290, H⟩ := H
          replace H : (if t471 = true then (if t470 < 1 then (none) else (if t470 > (x5_3.size : Int) then (none) else (if 0 ≤ x8_3 then ((entry_Same.f k3 t465 t466 t469 ((rd_T25 x4_1 x8_3).f0) ((rd_T25 x4_1 x8_3).f1) ((rd_T25 x4_1 x8_3).f2)).bind fun t474 => (if t474 = true then (if 0 ≤ t470 then (if t470 ≤ (x5_3.size : Int) then (archivistlaw13_EntryPuts.l1 k3 true x4_1 (x5_3.extract (t470 : Int).toNat x5_3.size) (wrap64 (x8_3 + 1))) else (none)) else (none)) else (none))) else (none)))) else (none)) = some r := H
          have A29 := Aside0.mk A290
          clear A290
          by_cases c30 : t471 = true
          ·subst c30
           have H1 : (if t470 < 1 then (none) else (if t470 > (x5_3.size : Int) then (none) else (if 0 ≤ x8_3 then ((entry_Same.f k3 t465 t466 t469 ((rd_T25 x4_1 x8_3).f0) ((rd_T25 x4_1 x8_3).f1) ((rd_T25 x4_1 x8_3).f2)).bind fun t474 => (if t474 = true then (if 0 ≤ t470 then (if t470 ≤ (x5_3.size : Int) then (archivistlaw13_EntryPuts.l1 k3 true x4_1 (x5_3.extract (t470 : Int).toNat x5_3.size) (wrap64 (x8_3 + 1))) else (none)) else (none)) else (none))) else (none)))) = some r := by rw [if_pos rfl] at H; exact H
           clear H
           have H := H1
           clear H1
           by_cases c31 : t470 < 1
           ·rw [if_pos c31] at H
            have c31b0 := decide_eq_true c31
            clear c31
            exact absurd H (by simp)
           ·rw [if_neg c31] at H
            have c31b0 : decide (t470 < 1) = false := decide_eq_false c31
            clear c31
            by_cases c32 : t470 > (x5_3.size : Int)
            ·rw [if_pos c32] at H
             have c32b0 := decide_eq_true c32
             clear c32
             exact absurd H (by simp)
            ·rw [if_neg c32] at H
             have c32b0 : decide ((x5_3.size : Int) < t470) = false := decide_eq_false c32
             clear c32
             by_cases c33 : 0 ≤ x8_3
             ·rw [if_pos c33] at H
              have c33b0 := decide_eq_true c33
              clear c33
              replace H := Option.bind_eq_some_iff.mp H
              obtain ⟨t474, A340, H⟩ := H
              replace H : (if t474 = true then (if 0 ≤ t470 then (if t470 ≤ (x5_3.size : Int) then (archivistlaw13_EntryPuts.l1 k3 true x4_1 (x5_3.extract (t470 : Int).toNat x5_3.size) (wrap64 (x8_3 + 1))) else (none)) else (none)) else (none)) = some r := H
              have A34 := Aside0.mk A340
              clear A340
              by_cases c35 : t474 = true
              ·subst c35
               have H1 : (if 0 ≤ t470 then (if t470 ≤ (x5_3.size : Int) then (archivistlaw13_EntryPuts.l1 k3 true x4_1 (x5_3.extract (t470 : Int).toNat x5_3.size) (wrap64 (x8_3 + 1))) else (none)) else (none)) = some r := by rw [if_pos rfl] at H; exact H
               clear H
               have H := H1
               clear H1
               by_cases c36 : 0 ≤ t470
               ·rw [if_pos c36] at H
                have c36b0 := eq_true c36
                have c36b1 : decide (0 ≤ t470) = true := decide_eq_true c36
                clear c36
                by_cases c37 : t470 ≤ (x5_3.size : Int)
                ·rw [if_pos c37] at H
                 have c37b0 := eq_true c37
                 have c37b1 : decide (t470 ≤ (x5_3.size : Int)) = true := decide_eq_true c37
                 clear c37
                 have H' := Aside0.mk H
                 clear H
                 obtain ⟨Ao38, co38, eo38⟩ := Kd.N_slice HO_4.out
                 subst eo38
                 try go_wp2_with (first | ((with_reducible refine gate_callee (f := 10) rfl ?_); refine goesL_ (some 48) rfl rfl Tryd.func10 (by kernel_rfl) rfl #[.string x5_3] rfl ml ?_; (with_reducible refine (entry_Parse.calls k3 x5_3 t465 t466 t469 t470 true _ A29.out ?sideLd).mono ?_); (case sideLd => exact laid_below HLd.out bl); rintro e w39 ⟨v467, rfl, ho0, hb⟩; refine ⟨_, rfl, ?_⟩; have n0_ := Aside0.mk (Kd.N_elder' (by (with_reducible repeat (first | apply Kd.N_alloc | apply Kd.N_drewN | apply Kd.N_drew)); exact HO_4.out) (Kd.R_base ho0) hb); have n1_ := Aside0.mk (Kd.R_lower ho0 (below_size bl)); have n2_ := Aside0.mk (below_step bl hb); clear HO_4; clear HB; have HO_4 := n0_; have HO468 := n1_; have HB := n2_; clear n0_ n1_ n2_; (try clear hb); (try clear hb2); (try clear hk); (try clear hi); (try clear ho0)) | ((with_reducible refine gate_dst (N := 9) rfl ?_); (try (refine gate_guard (by rfl) ?_; dsimp only)); refine box_event ?hg (N := 9) ?hd (cs := #[.int .i64 0, .slice none 0 0, .string (⟨#[]⟩ : ByteArray)]) (t := 25) ?hr ?_; (case hd => rfl); (case hg => rfl); (case hr => first | (go_simp; done) | (go_simp; rfl)); intro gb472 hg w40 hbox hb; have n0_ := Aside0.mk (Kd.N_below (Kd.N_elderB (by (with_reducible repeat (first | apply Kd.N_alloc | apply Kd.N_drewN | apply Kd.N_drew)); exact HO_4.out) gb472 (Nat.le_of_eq hg.symm)) hb); have n1_ := Aside0.mk (Kd.R_below (rz HO468.out) hb); have n2_ := Aside0.mk (below_step bl hb); have n3_ := Aside0.mk (hbox); have n4_ := Aside0.mk ((by rw [hg]; exact (below_size bl) : w.heap.size ≤ gb472)); have n5_ := Aside0.mk ((by rw [hg]; exact (below_size bl) : w.heap.size ≤ gb472)); clear HO_4; clear HO468; clear HB; have HO_4 := n0_; have HO468 := n1_; have HB := n2_; have BK472 := n3_; have GW472 := n4_; have GE472 := n5_; clear n0_ n1_ n2_ n3_ n4_ n5_; clear hb hbox hg; have hcz41_0 : w40.cell? ⟨gb472, 0, none⟩ = some (.int .i64 0) := (blk_cell BK472.out 0).trans rfl; have hcz41_1 : w40.cell? ⟨gb472, 1, none⟩ = some (.slice none 0 0) := (blk_cell BK472.out 1).trans rfl; have hcz41_2 : w40.cell? ⟨gb472, 2, none⟩ = some (.string (⟨#[]⟩ : ByteArray)) := (blk_cell BK472.out 2).trans rfl; have hfz41_0 := blk_frozen BK472.out 0; have hfz41_1 := blk_frozen BK472.out 1; have hfz41_2 := blk_frozen BK472.out 2; obtain ⟨Ao42, co42, eo42⟩ := Kd.R_slice HO468.out; subst eo42))
                 have n0_ : Aside0 (Kd.N k25 25 (((w40.setCell ⟨gb472, 0, none⟩ (.int .i64 t465)).setCell ⟨gb472, 1, none⟩ (.slice Ao42 t466.length co42)).setCell ⟨gb472, 2, none⟩ (.string t469)) w.heap.size (fun k_ => some k_ ≠ (.slice Ao42 t466.length co42 : Value).ownBlock ∧ k_ ≠ gb472) (.slice Ao38 x4_1.length co38) x4_1) := ⟨by (with_reducible repeat (first | apply Kd.N_alloc | apply Kd.N_drewN | apply Kd.N_drew)); exact Kd.N_mono (Kd.N_far (p := ⟨gb472, 2, none⟩) (Kd.N_far (p := ⟨gb472, 1, none⟩) (Kd.N_far (p := ⟨gb472, 0, none⟩) (Kd.N_mono HO_4.out (fun k_ hk => (⟨hk, hk.2⟩ : _ ∧ k_ ≠ gb472))) (fun _ hk => hk.2) (.int .i64 t465)) (fun _ hk => hk.2) (.slice Ao42 t466.length co42)) (fun _ hk => hk.2) (.string t469)) (fun _ hk => ⟨hk.1.1.2, hk.1.2⟩)⟩
                 have n1_ : Aside0 (Kd.R k48 48 (((w40.setCell ⟨gb472, 0, none⟩ (.int .i64 t465)).setCell ⟨gb472, 1, none⟩ (.slice Ao42 t466.length co42)).setCell ⟨gb472, 2, none⟩ (.string t469)) w.heap.size (fun _ => True) (.slice Ao42 t466.length co42) t466) := ⟨by (with_reducible repeat (first | apply Kd.R_alloc | apply Kd.R_drewN | apply Kd.R_drew)); exact Kd.R_mono (Kd.R_far (p := ⟨gb472, 2, none⟩) (Kd.R_far (p := ⟨gb472, 1, none⟩) (Kd.R_far (p := ⟨gb472, 0, none⟩) (Kd.R_types HO468.out BK472.out (by decide)) (fun _ hk => hk.2) (.int .i64 t465)) (fun _ hk => hk.2) (.slice Ao42 t466.length co42)) (fun _ hk => hk.2) (.string t469)) (fun _ hk => trivial)⟩
                 have n2_ : Aside0 ((((w40.setCell ⟨gb472, 0, none⟩ (.int .i64 t465)).setCell ⟨gb472, 1, none⟩ (.slice Ao42 t466.length co42)).setCell ⟨gb472, 2, none⟩ (.string t469)).heap[gb472]? = some (.cells #[.int .i64 t465, .slice Ao42 t466.length co42, .string t469] 25 (0, 0))) := ⟨by (with_reducible repeat (first | refine blk_drewN ?_ _ | refine blk_drew ?_ | refine blk_alloc ?_ _)); refine blk_put (cs := #[.int .i64 t465, .slice Ao42 t466.length co42, .string (⟨#[]⟩ : ByteArray)]) ?_ 2 _ rfl; (with_reducible repeat (first | refine blk_drewN ?_ _ | refine blk_drew ?_ | refine blk_alloc ?_ _)); refine blk_put (cs := #[.int .i64 t465, .slice none 0 0, .string (⟨#[]⟩ : ByteArray)]) ?_ 1 _ rfl; (with_reducible repeat (first | refine blk_drewN ?_ _ | refine blk_drew ?_ | refine blk_alloc ?_ _)); refine blk_put (cs := #[.int .i64 0, .slice none 0 0, .string (⟨#[]⟩ : ByteArray)]) ?_ 0 _ rfl; (with_reducible repeat (first | refine blk_drewN ?_ _ | refine blk_drew ?_ | refine blk_alloc ?_ _)); exact BK472.out⟩
                 have n3_ : Aside0 (Below w.heap.size w (((w40.setCell ⟨gb472, 0, none⟩ (.int .i64 t465)).setCell ⟨gb472, 1, none⟩ (.slice Ao42 t466.length co42)).setCell ⟨gb472, 2, none⟩ (.string t469))) := ⟨by repeat (first | (with_reducible first | exact HB.out | apply below_alloc | apply pw_below_drewN | apply below_drew1 | refine below_set ?_ GE472.out) | exact HB.out)⟩
                 (try clear HO_4)
                 (try clear HO468)
                 (try clear BK472)
                 (try clear HB)
                 generalize (((w40.setCell ⟨gb472, 0, none⟩ (.int .i64 t465)).setCell ⟨gb472, 1, none⟩ (.slice Ao42 t466.length co42)).setCell ⟨gb472, 2, none⟩ (.string t469)) = w43 at n0_ n1_ n2_ n3_ ⊢
                 have HO_4 := n0_
                 have HO468 := n1_
                 have BK472 := n2_
                 have HB := n3_
                 clear n0_ n1_ n2_ n3_
                 have n0_ := Aside0.mk (Kd.N_drew HO_4.out)
                 have n1_ := Aside0.mk (Kd.R_drew HO468.out)
                 have n2_ := Aside0.mk (blk_drew BK472.out)
                 have n3_ := Aside0.mk (below_drew1 HB.out)
                 clear HO_4
                 clear HO468
                 clear BK472
                 clear HB
                 have HO_4 := n0_
                 have HO468 := n1_
                 have BK472 := n2_
                 have HB := n3_
                 clear n0_ n1_ n2_ n3_
                 have p473 : 0 ≤ (x8_3 : Int) := od
                 have q473 : x8_3 < (x4_1.length : Int) := od
                 obtain ⟨ad473, A473_1, c473_1, e473, hx473_0, hx473_1, hx473_2, hl473_1, hi473_1⟩ := at_T25 (Kd.N_reads' HO_4.out).2.2 x8_3 p473 q473
                 cases e473
                 obtain ⟨ce473, hce473, hMe473, hcc473⟩ := Kd.N_get HO_4.out z25 x8_3 p473 (by first | exact q473 | exact od | (have e_ := (Kd.N_reads' HO_4.out).1; omega))
                 obtain ⟨ua473_1, uc473_1, rfl, ul473_1, ge473_1⟩ := k25_openF hMe473
                 have hv473_1 := hcc473 1 _ rfl
                 rw [add_field _ _ 1 (by omega)] at hv473_1
                 replace hv473_1 := Option.some.inj (hv473_1.symm.trans hx473_1)
                 injection hv473_1 with hva_ hvn_ hvc_
                 rw [hva_] at ge473_1
                 rw [hvc_] at ul473_1
                 have HL473_1 := Aside0.mk (show Kd.V k48 48 _ w.heap.size _ _ ((rd_T25 x4_1 x8_3).f1) from Kd.V_mk ul473_1 ge473_1)
                 clear hva_ hvn_ hvc_ ge473_1 ul473_1
                 clear hcc473 hce473
                 have HR473_1 := Aside0.mk hi473_1
                 have HC473_1 := Aside0.mk hl473_1
                 clear hi473_1 hl473_1
                 replace p473 := eq_true p473
                 replace q473 := eq_true q473
                 refine start_ (n := 21) (S := fun w' => w'.cell? ⟨gb472, 0, none⟩ = some (.int .i64 t465) ∧ w'.cell? ⟨gb472, 1, none⟩ = some (.slice Ao42 t466.length co42) ∧ w'.cell? ⟨gb472, 2, none⟩ = some (.string t469) ∧ w'.cell? (ad473.add ((x8_3).toNat * 3)) = some (.int .i64 ((rd_T25 x4_1 x8_3).f0)) ∧ w'.cell? ⟨(ad473.add ((x8_3).toNat * 3)).block, (ad473.add ((x8_3).toNat * 3)).off + 1, none⟩ = some (.slice A473_1 ((rd_T25 x4_1 x8_3).f1).length c473_1) ∧ w'.cell? ⟨(ad473.add ((x8_3).toNat * 3)).block, (ad473.add ((x8_3).toNat * 3)).off + 2, none⟩ = some (.string ((rd_T25 x4_1 x8_3).f2))) (ds := []) #[N_,N_,N_,N_,N_,N_,N_,N_,N_,N_,N_,N_,N_,N_,N_,N_,N_,N_,N_,N_,N_] (by kernel_rfl) rfl rfl ⟨(blk_cell BK472.out 0).trans rfl, (blk_cell BK472.out 1).trans rfl, (blk_cell BK472.out 2).trans rfl, hx473_0, hx473_1, hx473_2⟩ (fun hHeld => ?_); refine with_tabW archivistlaw13_EntryPuts.tab17 archivistlaw13_EntryPuts.bits17 (fun HT_ HW_ => ?_)
                 generalize w43.drew = w44 at HO_4 HO468 BK472 HB HL473_1 HR473_1 hx473_0 hx473_1 hx473_2 hHeld ⊢
                 refine pY 0 52 #[J_,N_,N_,N_,N_,N_,N_,N_,N_,N_,N_,N_,N_,N_,N_,N_,N_,N_,N_,N_,N_] HT_.out ?_
                 refine pY 1 53 #[J_,J_,N_,N_,N_,N_,N_,N_,N_,N_,N_,N_,N_,N_,N_,N_,N_,N_,N_,N_,N_] HT_.out ?_
                 refine pY 2 54 #[J_,J_,J_,N_,N_,N_,N_,N_,N_,N_,N_,N_,N_,N_,N_,N_,N_,N_,N_,N_,N_] HT_.out ?_
                 refine pY 3 55 #[J_,J_,J_,J_,N_,N_,N_,N_,N_,N_,N_,N_,N_,N_,N_,N_,N_,N_,N_,N_,N_] HT_.out ?_
                 refine pY 4 56 #[J_,J_,J_,J_,J_,N_,N_,N_,N_,N_,N_,N_,N_,N_,N_,N_,N_,N_,N_,N_,N_] HT_.out ?_
                 refine pY 5 57 #[J_,J_,J_,J_,J_,J_,N_,N_,N_,N_,N_,N_,N_,N_,N_,N_,N_,N_,N_,N_,N_] HT_.out ?_
                 refine pY 6 58 #[J_,J_,J_,J_,J_,J_,J_,N_,N_,N_,N_,N_,N_,N_,N_,N_,N_,N_,N_,N_,N_] HT_.out ?_
                 refine pY 7 59 #[J_,J_,J_,J_,J_,J_,J_,J_,N_,N_,N_,N_,N_,N_,N_,N_,N_,N_,N_,N_,N_] HT_.out ?_
                 refine pY 8 60 #[J_,J_,J_,J_,J_,J_,J_,J_,J_,N_,N_,N_,N_,N_,N_,N_,N_,N_,N_,N_,N_] HT_.out ?_
                 refine pY 9 61 #[J_,J_,J_,J_,J_,J_,J_,J_,J_,J_,N_,N_,N_,N_,N_,N_,N_,N_,N_,N_,N_] HT_.out ?_
                 refine pY 10 62 #[J_,J_,J_,J_,J_,J_,J_,J_,J_,J_,J_,N_,N_,N_,N_,N_,N_,N_,N_,N_,N_] HT_.out ?_
                 refine pY 11 63 #[J_,J_,J_,J_,J_,J_,J_,J_,J_,J_,J_,J_,N_,N_,N_,N_,N_,N_,N_,N_,N_] HT_.out ?_
                 refine pY 12 64 #[J_,J_,J_,J_,J_,J_,J_,J_,J_,J_,J_,J_,J_,N_,N_,N_,N_,N_,N_,N_,N_] HT_.out ?_
                 refine pY 14 66 #[J_,J_,J_,J_,J_,J_,J_,J_,J_,J_,J_,J_,J_,N_,J_,N_,N_,N_,N_,N_,N_] HT_.out ?_
                 refine pY 15 67 #[J_,J_,J_,J_,J_,J_,J_,J_,J_,J_,J_,J_,J_,N_,J_,J_,N_,N_,N_,N_,N_] HT_.out ?_
                 refine pY 16 68 #[J_,J_,J_,J_,J_,J_,J_,J_,J_,J_,J_,J_,J_,N_,J_,J_,J_,N_,N_,N_,N_] HT_.out ?_
                 refine take_ (i := 13) (N := some 65) (v := ?_) (a' := ?_) #[J_,J_,J_,J_,J_,J_,J_,J_,J_,J_,J_,J_,J_,J_,J_,J_,J_,N_,N_,N_,N_] rfl rfl (take_ofW HT_.out HW_.out (by kernel_rfl)) (fun _ _ _ h => h) (Or.inl ⟨by rfl, ?_⟩) hHeld ?_ ?_
                 rotate_left
                 ·rintro w' ⟨s0, s1, s2, s3, s4, s5⟩
                  go_simp
                  with_reducible rfl
                 rotate_left
                 ·simp only [Act.put, List.setIfInBounds_toArray, List.set_cons_zero, List.set_cons_succ, i64_w, i32_w]
                  rfl
                 refine take_ (i := 17) (N := some 69) (v := ?_) (a' := ?_) #[J_,J_,J_,J_,J_,J_,J_,J_,J_,J_,J_,J_,J_,J_,J_,J_,J_,J_,N_,N_,N_] rfl rfl (take_ofW HT_.out HW_.out (by kernel_rfl)) (fun _ _ _ h => h) (Or.inl ⟨by rfl, ?_⟩) hHeld ?_ ?_
                 rotate_left
                 ·rintro w' ⟨s0, s1, s2, s3, s4, s5⟩
                  go_simp
                  with_reducible rfl
                 rotate_left
                 ·simp only [Act.put, List.setIfInBounds_toArray, List.set_cons_zero, List.set_cons_succ, i64_w, i32_w]
                  rfl
                 refine one_ (i := 18) (N := some 70) #[J_,J_,J_,J_,J_,J_,J_,J_,J_,J_,J_,J_,J_,J_,J_,J_,J_,J_,J_,N_,N_] rfl rfl (one_of HT_.out (by kernel_rfl)) (by decide) (fun K hK => ?_)
                 refine goes_ Tryd.func12 (by kernel_rfl) rfl #[.agg #[.int .i64 t465, .slice Ao42 t466.length co42, .string t469], .agg #[.int .i64 ((rd_T25 x4_1 x8_3).f0), .slice A473_1 ((rd_T25 x4_1 x8_3).f1).length c473_1, .string ((rd_T25 x4_1 x8_3).f2)]] (by rfl) rfl rfl ml ?_
                 with_reducible refine (entry_Same.calls k3 t465 _ _ t466 t469 ((rd_T25 x4_1 x8_3).f0) _ _ ((rd_T25 x4_1 x8_3).f1) ((rd_T25 x4_1 x8_3).f2) true _ ?side1 ?side2 ?side3 ?side4 A34.out).mono ?_
                 (case side1 => exact cz (Kd.R_reads' HO468.out).2.2)
                 (case side2 => exact (Kd.R_reads' HO468.out).2.1)
                 (case side3 => repeat (first | exact (by repeat (first | (with_reducible exact HR473_1.out) | (with_reducible refine Kd.C_alloc ?_ _) | (with_reducible refine Kd.C_drewN ?_ _) | (with_reducible refine Kd.C_drew ?_) | exact HR473_1.out)) | (with_reducible refine Kd.C_alloc ?_ _) | (with_reducible refine Kd.C_drewN ?_ _) | (with_reducible refine Kd.C_drew ?_)))
                 (case side4 => exact HC473_1.out)
                 rintro e w45 ⟨rfl, hb⟩
                 have HS3_ := (hb.cell (World.block_lt_of_cell? _ _ (hHeld.2.2.2.1))).trans (hHeld.2.2.2.1)
                 have HS4_ := (hb.cell (World.block_lt_of_cell? _ _ (hHeld.2.2.2.2.1))).trans (hHeld.2.2.2.2.1)
                 have HS5_ := (hb.cell (World.block_lt_of_cell? _ _ (hHeld.2.2.2.2.2))).trans (hHeld.2.2.2.2.2)
                 refine ⟨_, rfl, ?_⟩
                 have n0_ := Aside0.mk (Kd.N_below (by (with_reducible repeat (first | apply Kd.N_alloc | apply Kd.N_drewN | apply Kd.N_drew)); exact HO_4.out) hb)
                 have n1_ := Aside0.mk (Kd.R_below (rz HO468.out) hb)
                 have n2_ := Aside0.mk (Kd.V_below (by (with_reducible repeat (first | apply Kd.V_alloc | apply Kd.V_drewN | apply Kd.V_drew)); exact HL473_1.out) hb)
                 have n3_ := Aside0.mk (blk_below (g := gb472) (o := .cells #[.int .i64 t465, .slice Ao42 t466.length co42, .string t469] 25 (0, 0)) (bz BK472.out) hb)
                 have n4_ := Aside0.mk (Kd.C_below (by repeat (first | (with_reducible exact HR473_1.out) | (with_reducible refine Kd.C_alloc ?_ _) | (with_reducible refine Kd.C_drewN ?_ _) | (with_reducible refine Kd.C_drew ?_) | exact HR473_1.out)) hb)
                 have n5_ := Aside0.mk (below_step (by repeat (first | (with_reducible first | exact HB.out | apply below_alloc | apply pw_below_drewN | apply below_drew1 | refine below_set ?_ GE472.out) | exact HB.out)) hb)
                 clear HO_4
                 clear HO468
                 clear HL473_1
                 clear BK472
                 clear HR473_1
                 clear HB
                 have HO_4 := n0_
                 have HO468 := n1_
                 have HL473_1 := n2_
                 have BK472 := n3_
                 have HR473_1 := n4_
                 have HB := n5_
                 clear n0_ n1_ n2_ n3_ n4_ n5_
                 (try clear hb)
                 (try clear hb2)
                 (try clear hk)
                 (try clear hi)
                 refine hK.out _ _ ⟨(blk_cell BK472.out 0).trans rfl, (blk_cell BK472.out 1).trans rfl, (blk_cell BK472.out 2).trans rfl, HS3_, HS4_, HS5_⟩ (fun hHeld => ?_)
                 clear hK K
                 refine norm_ (a' := ?_) ?_ ?_
                 rotate_left
                 ·show Act.put _ (some 70) _ = _
                  simp only [Act.put, List.setIfInBounds_toArray, List.set_cons_zero, List.set_cons_succ, i64_w, i32_w]
                  rfl
                 refine pY 19 71 #[J_,J_,J_,J_,J_,J_,J_,J_,J_,J_,J_,J_,J_,J_,J_,J_,J_,J_,J_,J_,N_] HT_.out ?_
                 refine pY 20 72 #[J_,J_,J_,J_,J_,J_,J_,J_,J_,J_,J_,J_,J_,J_,J_,J_,J_,J_,J_,J_,J_] HT_.out ?_
                 refine done_ (done_of HT_.out (by kernel_rfl)) ?_
                 try go_wp2
                 go_roundg k3
                 case measure => have := HK1.out; have := HJ4.out; have := HK3.out; omega
                 case rel => exact ⟨(x5_3.extract (t470 : Int).toNat x5_3.size), (wrap64 (x8_3 + 1)), rs, rs, H', ⟨by have := HK1.out; have := HJ4.out; have := HK3.out; omega⟩, ⟨by (with_reducible repeat (first | apply Kd.N_alloc | apply Kd.N_drewN | apply Kd.N_drew)); exact Kd.N_mono HO_4.out (fun _ hk => trivial)⟩, ⟨by repeat (first | (with_reducible first | exact HB.out | apply below_alloc | apply pw_below_drewN | apply below_drew1 | refine below_set ?_ GE472.out) | exact HB.out)⟩⟩
                ·rw [if_neg c37] at H
                 exact absurd H (by simp)
               ·rw [if_neg c36] at H
                exact absurd H (by simp)
              ·replace c35 := Bool.eq_false_iff.mpr c35
               subst c35
               have H1 : (none) = some r := by rw [if_neg (show ¬ (false = true) by decide)] at H; exact H
               clear H
               have H := H1
               clear H1
               exact absurd H (by simp)
             ·rw [if_neg c33] at H
              exact absurd H (by simp)
          ·replace c30 := Bool.eq_false_iff.mpr c30
           subst c30
           have H1 : (none) = some r := by rw [if_neg (show ¬ (false = true) by decide)] at H; exact H
           clear H
           have H := H1
           clear H1
           exact absurd H (by simp)
         ·rw [if_neg c28] at H
          have c28b0 : decide (x8_3 < (x4_1.length : Int)) = false := decide_eq_false c28
          clear c28
          by_cases c46 : true = true
          ·clear c46
           have H1 : (some (x5_3.toList == ([] : List UInt8))) = some r := by first | (rw [if_pos rfl] at H; exact H) | (rw [if_pos trivial] at H; exact H)
           clear H
           have H := H1
           clear H1
           obtain rfl := Option.some.inj H
           obtain ⟨Ao47, co47, eo47⟩ := Kd.N_slice HO_4.out
           subst eo47
           go_wp2
           go_ret
           exact ⟨by first | rfl | (simp [errW_none, errW_some] <;> rfl) | (simp [*, errW_none, errW_some] <;> rfl), bl⟩
          ·exact absurd rfl c46
 ·replace c3 := Bool.eq_false_iff.mpr c3
  subst c3
  have H1 : (none) = some r := by rw [if_neg (show ¬ (false = true) by decide)] at H; exact H
  clear H
  have H := H1
  clear H1
  exact absurd H (by simp)

end Go.Proofs.YtjmbddgbojcpmaaDoor.X
