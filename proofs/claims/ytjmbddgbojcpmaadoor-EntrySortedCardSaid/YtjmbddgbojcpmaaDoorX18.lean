-- Laid by xprint.py, a program of this session's, out of the translation.
import Derived.Test.YtjmbddgbojcpmaaDoorX0
import Derived.Test.YtjmbddgbojcpmaaDoorX1
import Derived.Test.YtjmbddgbojcpmaaDoorX11
import Derived.Test.YtjmbddgbojcpmaaDoorX12
import Derived.Test.YtjmbddgbojcpmaaDoorX20
namespace Go.Proofs.YtjmbddgbojcpmaaDoor.X
open Go.RowKit Go.Proofs.YtjmbddgbojcpmaaDoorW.PrintWords Go.Proofs.YtjmbddgbojcpmaaDoorW.PrintLast Go.Proofs.YtjmbddgbojcpmaaDoorW.PrintMore
attribute [local go_sem] max2_int min2_int max_two min_two max_three min_three max_four min_four x_isSome x_str_gtr x_str_leq x_str_geq   -- for this text's walks alone
set_option linter.unusedVariables false
set_option linter.unusedSimpArgs false

/-! ### archivistlaw13_EntrySorted: function 5 -/
mutual
def archivistlaw13_EntrySorted.l0 : Nat → Bool → List (S25) → List (S25) → Int → Option (Bool)
 | 0, _, _, _, _ => none
 | k + 1, x3, x4, x5, x6 => if x6 < (x4.length : Int) then (archivistlaw13_EntrySorted.l1 k x3 x4 x5 x6 (x5.length : Int)) else (archivistlaw13_EntrySorted.l2 k x3 x5 ([] : List (S25)) (wrap64 ((x5.length : Int) - 1)))
def archivistlaw13_EntrySorted.l1 : Nat → Bool → List (S25) → List (S25) → Int → Int → Option (Bool)
 | 0, _, _, _, _, _ => none
 | k + 1, x3, x4, x5, x6, x7 => if x7 > 0 then (if 0 ≤ x6 then (if x6 < (x4.length : Int) then (if 0 ≤ (wrap64 (x7 - 1)) then (if (wrap64 (x7 - 1)) < (x5.length : Int) then ((entry_Ahead.f k ((rd_T25 x4 x6).f0) ((rd_T25 x4 x6).f1) ((rd_T25 x4 x6).f2) ((rd_T25 x5 (wrap64 (x7 - 1))).f0) ((rd_T25 x5 (wrap64 (x7 - 1))).f1) ((rd_T25 x5 (wrap64 (x7 - 1))).f2) true).bind fun t394 => (if t394 = true then (archivistlaw13_EntrySorted.l1 k x3 x4 x5 x6 (wrap64 (x7 - 1))) else (if 0 ≤ x7 then (if x7 ≤ (x5.length : Int) then ((some (x5.take (x7 : Int).toNat : List (S25))).bind fun y395 => (if ([] : List (S25)).length + y395.length < 2932031007402 then ((some (([] : List (S25)) ++ y395 : List (S25))).bind fun y400 => (if y400.length < 2932031007402 then ((some (y400 ++ [(⟨(rd_T25 x4 x6).f0, (rd_T25 x4 x6).f1, (rd_T25 x4 x6).f2⟩ : S25)] : List (S25))).bind fun y404 => ((some (x5.drop (x7 : Int).toNat : List (S25))).bind fun y407 => (if y404.length + y407.length < 2932031007402 then (archivistlaw13_EntrySorted.l0 k x3 x4 (y404 ++ y407) (wrap64 (x6 + 1))) else (none)))) else (none))) else (none))) else (none)) else (none)))) else (none)) else (none)) else (none)) else (none)) else (if 0 ≤ x7 then (if x7 ≤ (x5.length : Int) then ((some (x5.take (x7 : Int).toNat : List (S25))).bind fun y415 => (if ([] : List (S25)).length + y415.length < 2932031007402 then ((some (([] : List (S25)) ++ y415 : List (S25))).bind fun y420 => (if 0 ≤ x6 then (if x6 < (x4.length : Int) then (if y420.length < 2932031007402 then ((some (y420 ++ [(⟨(rd_T25 x4 x6).f0, (rd_T25 x4 x6).f1, (rd_T25 x4 x6).f2⟩ : S25)] : List (S25))).bind fun y424 => ((some (x5.drop (x7 : Int).toNat : List (S25))).bind fun y427 => (if y424.length + y427.length < 2932031007402 then (archivistlaw13_EntrySorted.l0 k x3 x4 (y424 ++ y427) (wrap64 (x6 + 1))) else (none)))) else (none)) else (none)) else (none))) else (none))) else (none)) else (none))
def archivistlaw13_EntrySorted.l2 : Nat → Bool → List (S25) → List (S25) → Int → Option (Bool)
 | 0, _, _, _, _ => none
 | k + 1, x3, x5, x9, x10 => if x10 ≥ 0 then (if 0 ≤ x10 then (if x10 < (x5.length : Int) then (if x9.length < 2932031007402 then (archivistlaw13_EntrySorted.l2 k x3 x5 (x9 ++ [(⟨(rd_T25 x5 x10).f0, (rd_T25 x5 x10).f1, (rd_T25 x5 x10).f2⟩ : S25)]) (wrap64 (x10 - 1))) else (none)) else (none)) else (none)) else (if (x5.length : Int) = 0 then (if x3 = true then ((entry_Sorted.f k true x5).bind fun t439 => (if t439 = true then ((entry_Sorted.f k false x9).bind fun t440 => (if t440 = true then ((entry_Sorted.f k false x5).bind fun t441 => (some (t441 == true))) else (none))) else (none))) else (none)) else (if 0 < (x5.length : Int) then (if 0 ≤ (wrap64 ((x5.length : Int) - 1)) then (if (wrap64 ((x5.length : Int) - 1)) < (x5.length : Int) then ((entry_Same.f k ((rd_T25 x5 0).f0) ((rd_T25 x5 0).f1) ((rd_T25 x5 0).f2) ((rd_T25 x5 (wrap64 ((x5.length : Int) - 1))).f0) ((rd_T25 x5 (wrap64 ((x5.length : Int) - 1))).f1) ((rd_T25 x5 (wrap64 ((x5.length : Int) - 1))).f2)).bind fun t444 => (if x3 = true then ((entry_Sorted.f k true x5).bind fun t445 => (if t445 = true then ((entry_Sorted.f k false x9).bind fun t446 => (if t446 = true then ((entry_Sorted.f k false x5).bind fun t447 => (some (t447 == t444))) else (none))) else (none))) else (none))) else (none)) else (none)) else (none)))
end
def archivistlaw13_EntrySorted.f (k : Nat) (l0 : List (S29)) : Option (Bool) := (archivistlaw13_examples.f k).bind fun t388 => (if t388 = true then ((archivistlaw13_items.f k l0 10).bind fun t389 => (archivistlaw13_EntrySorted.l0 k t388 t389 ([] : List (S25)) 0)) else (none))
theorem archivistlaw13_EntrySorted.mono_l : ∀ k, (∀ y0 y1 y2 y3, LeO (archivistlaw13_EntrySorted.l0 k y0 y1 y2 y3) (archivistlaw13_EntrySorted.l0 (k + 1) y0 y1 y2 y3)) ∧ (∀ y0 y1 y2 y3 y4, LeO (archivistlaw13_EntrySorted.l1 k y0 y1 y2 y3 y4) (archivistlaw13_EntrySorted.l1 (k + 1) y0 y1 y2 y3 y4)) ∧ (∀ y0 y1 y2 y3, LeO (archivistlaw13_EntrySorted.l2 k y0 y1 y2 y3) (archivistlaw13_EntrySorted.l2 (k + 1) y0 y1 y2 y3))
 | 0 => ⟨fun _ _ _ _ r h => by simp [archivistlaw13_EntrySorted.l0] at h, fun _ _ _ _ _ r h => by simp [archivistlaw13_EntrySorted.l1] at h, fun _ _ _ _ r h => by simp [archivistlaw13_EntrySorted.l2] at h⟩
 | k + 1 => by
  obtain ⟨ih0, ih1, ih2⟩ := archivistlaw13_EntrySorted.mono_l k
  refine ⟨?_, ?_, ?_⟩
  ·intro y0 y1 y2 y3
   unfold archivistlaw13_EntrySorted.l0
   repeat' first
   | (with_reducible exact ih0 _ _ _ _)
   | (with_reducible exact ih1 _ _ _ _ _)
   | (with_reducible exact ih2 _ _ _ _)
   | (with_reducible exact archivistlaw13_examples.mono _)
   | (with_reducible exact archivistlaw13_items.mono _ _ _)
   | (with_reducible exact entry_Ahead.mono _ _ _ _ _ _ _ _)
   | (with_reducible exact entry_Same.mono _ _ _ _ _ _ _)
   | (with_reducible exact entry_Sorted.mono _ _ _)
   | (with_reducible exact LeO.refl _)
   | (with_reducible exact LeO.none _)
   | (with_reducible refine LeO.ite ?_ ?_)
   | (with_reducible refine LeO.bind ?_ (fun _ => ?_))
   | exact ih0 _ _ _ _
   | exact ih1 _ _ _ _ _
   | exact ih2 _ _ _ _
   | exact archivistlaw13_examples.mono _
   | exact archivistlaw13_items.mono _ _ _
   | exact entry_Ahead.mono _ _ _ _ _ _ _ _
   | exact entry_Same.mono _ _ _ _ _ _ _
   | exact entry_Sorted.mono _ _ _
   | exact LeO.none _
   | refine LeO.ite ?_ ?_
   | refine LeO.bind ?_ (fun _ => ?_)
  ·intro y0 y1 y2 y3 y4
   unfold archivistlaw13_EntrySorted.l1
   repeat' first
   | (with_reducible exact ih0 _ _ _ _)
   | (with_reducible exact ih1 _ _ _ _ _)
   | (with_reducible exact ih2 _ _ _ _)
   | (with_reducible exact archivistlaw13_examples.mono _)
   | (with_reducible exact archivistlaw13_items.mono _ _ _)
   | (with_reducible exact entry_Ahead.mono _ _ _ _ _ _ _ _)
   | (with_reducible exact entry_Same.mono _ _ _ _ _ _ _)
   | (with_reducible exact entry_Sorted.mono _ _ _)
   | (with_reducible exact LeO.refl _)
   | (with_reducible exact LeO.none _)
   | (with_reducible refine LeO.ite ?_ ?_)
   | (with_reducible refine LeO.bind ?_ (fun _ => ?_))
   | exact ih0 _ _ _ _
   | exact ih1 _ _ _ _ _
   | exact ih2 _ _ _ _
   | exact archivistlaw13_examples.mono _
   | exact archivistlaw13_items.mono _ _ _
   | exact entry_Ahead.mono _ _ _ _ _ _ _ _
   | exact entry_Same.mono _ _ _ _ _ _ _
   | exact entry_Sorted.mono _ _ _
   | exact LeO.none _
   | refine LeO.ite ?_ ?_
   | refine LeO.bind ?_ (fun _ => ?_)
  ·intro y0 y1 y2 y3
   unfold archivistlaw13_EntrySorted.l2
   repeat' first
   | (with_reducible exact ih0 _ _ _ _)
   | (with_reducible exact ih1 _ _ _ _ _)
   | (with_reducible exact ih2 _ _ _ _)
   | (with_reducible exact archivistlaw13_examples.mono _)
   | (with_reducible exact archivistlaw13_items.mono _ _ _)
   | (with_reducible exact entry_Ahead.mono _ _ _ _ _ _ _ _)
   | (with_reducible exact entry_Same.mono _ _ _ _ _ _ _)
   | (with_reducible exact entry_Sorted.mono _ _ _)
   | (with_reducible exact LeO.refl _)
   | (with_reducible exact LeO.none _)
   | (with_reducible refine LeO.ite ?_ ?_)
   | (with_reducible refine LeO.bind ?_ (fun _ => ?_))
   | exact ih0 _ _ _ _
   | exact ih1 _ _ _ _ _
   | exact ih2 _ _ _ _
   | exact archivistlaw13_examples.mono _
   | exact archivistlaw13_items.mono _ _ _
   | exact entry_Ahead.mono _ _ _ _ _ _ _ _
   | exact entry_Same.mono _ _ _ _ _ _ _
   | exact entry_Sorted.mono _ _ _
   | exact LeO.none _
   | refine LeO.ite ?_ ?_
   | refine LeO.bind ?_ (fun _ => ?_)
theorem archivistlaw13_EntrySorted.mono : ∀ a0 k, LeO (archivistlaw13_EntrySorted.f k a0) (archivistlaw13_EntrySorted.f (k + 1) a0) := by
 intro a0 k
 obtain ⟨ih0, ih1, ih2⟩ := archivistlaw13_EntrySorted.mono_l k
 unfold archivistlaw13_EntrySorted.f
 repeat' first
   | (with_reducible exact ih0 _ _ _ _)
   | (with_reducible exact ih1 _ _ _ _ _)
   | (with_reducible exact ih2 _ _ _ _)
   | (with_reducible exact archivistlaw13_examples.mono _)
   | (with_reducible exact archivistlaw13_items.mono _ _ _)
   | (with_reducible exact entry_Ahead.mono _ _ _ _ _ _ _ _)
   | (with_reducible exact entry_Same.mono _ _ _ _ _ _ _)
   | (with_reducible exact entry_Sorted.mono _ _ _)
   | (with_reducible exact LeO.refl _)
   | (with_reducible exact LeO.none _)
   | (with_reducible refine LeO.ite ?_ ?_)
   | (with_reducible refine LeO.bind ?_ (fun _ => ?_))
   | exact ih0 _ _ _ _
   | exact ih1 _ _ _ _ _
   | exact ih2 _ _ _ _
   | exact archivistlaw13_examples.mono _
   | exact archivistlaw13_items.mono _ _ _
   | exact entry_Ahead.mono _ _ _ _ _ _ _ _
   | exact entry_Same.mono _ _ _ _ _ _ _
   | exact entry_Sorted.mono _ _ _
   | exact LeO.none _
   | refine LeO.ite ?_ ?_
   | refine LeO.bind ?_ (fun _ => ?_)
def archivistlaw13_EntrySorted.T10 : Bool × List (List Nat × List Nat) := (true, [([], []), ([0], [0]), ([1], [1]), ([2], [2]), ([2], [2]), ([3, 4, 2], [2, 3, 4]), ([5, 2], [2, 5]), ([2], [2]), ([2], [2]), ([8, 2], [2, 8]), ([7, 9, 2], [2, 7, 9]), ([10, 2], [2, 10]), ([6, 11, 2, 2], [2, 6, 11]), ([2, 12], [2, 12])])
def archivistlaw13_EntrySorted.B10 : List Nat := [0, 1, 3, 7, 7, 31, 63, 7, 7, 263, 903, 1927, 4095, 8191]
theorem archivistlaw13_EntrySorted.tab10 : rtab .any (opsOf Tryd.f5 10) = archivistlaw13_EntrySorted.T10 := by kernel_rfl
theorem archivistlaw13_EntrySorted.bits10 : waitsOk archivistlaw13_EntrySorted.T10.2 archivistlaw13_EntrySorted.B10 = true := by kernel_rfl
def archivistlaw13_EntrySorted.T21 : Bool × List (List Nat × List Nat) := (true, [([], []), ([0], [0]), ([1], [1]), ([2], [2]), ([3], [3]), ([4, 3], [3, 4]), ([5, 3], [3, 5]), ([3], [3]), ([3], [3]), ([8, 3], [3, 8]), ([9, 3], [3, 9]), ([7, 10, 3], [3, 7, 10]), ([11, 3], [3, 11]), ([6, 12, 3, 3], [3, 6, 12]), ([3, 13], [3, 13]), ([14, 13, 0, 1, 2, 3, 4, 5, 6, 7, 8, 9, 10, 11, 12, 13, 14], [14])])
def archivistlaw13_EntrySorted.B21 : List Nat := [0, 1, 3, 7, 15, 31, 63, 15, 15, 271, 783, 1935, 3983, 8191, 16383, 32767]
theorem archivistlaw13_EntrySorted.tab21 : rtab .any (opsOf Tryd.f5 21) = archivistlaw13_EntrySorted.T21 := by kernel_rfl
theorem archivistlaw13_EntrySorted.bits21 : waitsOk archivistlaw13_EntrySorted.T21.2 archivistlaw13_EntrySorted.B21 = true := by kernel_rfl
set_option maxHeartbeats 8000000 in
set_option maxRecDepth 100000 in
theorem archivistlaw13_EntrySorted.calls (k : Nat) (A0 : Option Addr) (c0 : Nat) (l0 : List (S29)) (r : Bool) (w : World) (hr0 : Kd.C k29 w A0 l0.length l0) (hc0 : l0.length ≤ c0) (h : archivistlaw13_EntrySorted.f k l0 = some r) (hLd : Laid w) :
  Calls Tryd.prog 5 #[.slice A0 l0.length c0] w fun e w' => e = .returned (.bool r) ∧ Below w.heap.size w w' := by
 have hu25 := Tryd.underlying25
 have HR0 := Aside0.mk hr0
 have HC0 := Aside0.mk hc0
 clear hr0 hc0
 have HLd := Aside0.mk hLd
 clear hLd
 have HB := Aside0.mk (Below.refl w.heap.size w)
 have H : ((archivistlaw13_examples.f k).bind fun t388 => (if t388 = true then ((archivistlaw13_items.f k l0 10).bind fun t389 => (archivistlaw13_EntrySorted.l0 k t388 t389 ([] : List (S25)) 0)) else (none))) = some r := h
 clear h
 replace H := Option.bind_eq_some_iff.mp H
 obtain ⟨t388, A20, H⟩ := H
 replace H : (if t388 = true then ((archivistlaw13_items.f k l0 10).bind fun t389 => (archivistlaw13_EntrySorted.l0 k t388 t389 ([] : List (S25)) 0)) else (none)) = some r := H
 have A2 := Aside0.mk A20
 clear A20
 by_cases c3 : t388 = true
 ·subst c3
  have H1 : ((archivistlaw13_items.f k l0 10).bind fun t389 => (archivistlaw13_EntrySorted.l0 k true t389 ([] : List (S25)) 0)) = some r := by rw [if_pos rfl] at H; exact H
  clear H
  have H := H1
  clear H1
  replace H := Option.bind_eq_some_iff.mp H
  obtain ⟨t389, A40, H⟩ := H
  replace H : (archivistlaw13_EntrySorted.l0 k true t389 ([] : List (S25)) 0) = some r := H
  have A4 := Aside0.mk A40
  clear A40
  have H' := Aside0.mk H
  clear H
  go_enter Tryd.func5, Tryd.ntmps5
  go_wp2_with (first | ((with_reducible refine gate_callee (f := 7) rfl ?_); refine goesL_ (some 12) rfl rfl Tryd.func7 (by kernel_rfl) rfl #[] rfl ml ?_; (with_reducible refine (archivistlaw13_examples.calls k  true _ A2.out ?sideLd).mono ?_); (case sideLd => exact laid_below HLd.out bl); rintro e w5 ⟨rfl, hb⟩; refine ⟨_, rfl, ?_⟩; have n0_ := Aside0.mk (below_step bl hb); clear HB; have HB := n0_; clear n0_; (try clear hb); (try clear hb2); (try clear hk); (try clear hi)) | ((with_reducible refine gate_callee (f := 15) rfl ?_); refine goesL_ (some 16) rfl rfl Tryd.func15 (by kernel_rfl) rfl #[.slice A0 l0.length c0, .int .i64 10] rfl ml ?_; (with_reducible refine (archivistlaw13_items.calls k (fun k_ => k_ < w.heap.size) _ _ l0 10 t389 _ ?side1 A4.out).mono ?_); (case side1 => exact Kd.V_mk HC0.out (Kd.F_below (Kd.C_F k29_heap HR0.out) bl)); rintro e w6 ⟨v390, rfl, ho0, hb⟩; refine ⟨_, rfl, ?_⟩; have n0_ := Aside0.mk (Kd.N_lower (Kd.N_mono (ok' := fun k_ => True) ho0 (fun k_ hk_ => trivial)) (below_size bl)); have n1_ := Aside0.mk (below_step bl hb); clear HB; have HO391 := n0_; have HB := n1_; clear n0_ n1_; (try clear hb); (try clear hb2); (try clear hk); (try clear hi); (try clear ho0)))
  go_loopg [5, 6] k (fun kq v5 v6 w' => ∃ (x5_1 : List (S25)) (x6_1 : Int), v6 = .int .i64 x6_1 ∧ Aside0 (archivistlaw13_EntrySorted.l0 kq true t389 x5_1 x6_1 = some r) ∧ Aside0 (kq ≤ k) ∧ Aside0 (Kd.N k25 25 w' w.heap.size (fun k_ => some k_ ≠ (v5 : Value).ownBlock) v390 t389) ∧ Aside0 (Kd.N k25 25 w' w.heap.size (fun k_ => some k_ ≠ (v390 : Value).ownBlock) v5 x5_1) ∧ Aside0 (Below w.heap.size w w'))
  case atStart => exact ⟨(([] : List (S25))), (0), rs, H', ⟨Nat.le_refl _⟩, ⟨by (with_reducible repeat (first | apply Kd.N_alloc | apply Kd.N_drewN | apply Kd.N_drew)); exact Kd.N_mono HO391.out (fun _ hk => (by simp [Value.ownBlock]))⟩, ⟨by first | exact Kd.S_nil _ _ _ _ _ | exact Kd.N_nil _ _ _ _ _ | exact Kd.V_nil _ _ _ _ _ | exact Kd.Q_nil _ _ _ _ _ | exact Kd.R_nil _ _ _ _ _⟩, ⟨bl⟩⟩
  case round =>
   clear H'
   try clear c1
   try clear p2
   try clear c3
   try clear c5
   obtain ⟨x5_1, x6_1, rfl, HA, HK1, HO_4, HO_5, HB⟩ := hrel
   cases gk with
   | zero => exact absurd HA.out (by simp [archivistlaw13_EntrySorted.l0])
   | succ k1 =>
    have H := HA.out
    clear HA
    simp only [archivistlaw13_EntrySorted.l0] at H
    by_cases c7 : x6_1 < (t389.length : Int)
    ·rw [if_pos c7] at H
     have c7b0 := decide_eq_true c7
     clear c7
     have H' := Aside0.mk H
     clear H
     obtain ⟨Ao8, co8, eo8⟩ := Kd.N_slice HO_4.out
     subst eo8
     obtain ⟨Ao9, co9, eo9⟩ := Kd.N_slice HO_5.out
     subst eo9
     go_wp2
     go_loopg [7] k1 (fun kq v7 w' => ∃ (x7_2 : Int), v7 = .int .i64 x7_2 ∧ Aside0 (archivistlaw13_EntrySorted.l1 kq true t389 x5_1 x6_1 x7_2 = some r) ∧ Aside0 (kq ≤ k1) ∧ Aside0 (Kd.N k25 25 w' w.heap.size (fun k_ => some k_ ≠ ((.slice Ao9 x5_1.length co9) : Value).ownBlock) (.slice Ao8 t389.length co8) t389) ∧ Aside0 (Kd.N k25 25 w' w.heap.size (fun k_ => some k_ ≠ ((.slice Ao8 t389.length co8) : Value).ownBlock) (.slice Ao9 x5_1.length co9) x5_1) ∧ Aside0 (Below w.heap.size w w'))
     case atStart => exact ⟨((x5_1.length : Int)), rs, H', ⟨Nat.le_refl _⟩, ⟨by (with_reducible repeat (first | apply Kd.N_alloc | apply Kd.N_drewN | apply Kd.N_drew)); exact HO_4.out⟩, ⟨by (with_reducible repeat (first | apply Kd.N_alloc | apply Kd.N_drewN | apply Kd.N_drew)); exact HO_5.out⟩, ⟨bl⟩⟩
     case round =>
      clear H'
      try clear c1
      try clear p2
      try clear c3
      try clear c5
      try clear c7
      try clear c7b0
      try clear p2
      obtain ⟨x7_2, rfl, HA, HK2, HO_4, HO_5, HB⟩ := hrel
      cases gk with
      | zero => exact absurd HA.out (by simp [archivistlaw13_EntrySorted.l1])
      | succ k2 =>
       have H := HA.out
       clear HA
       simp only [archivistlaw13_EntrySorted.l1] at H
       by_cases c10 : x7_2 > 0
       ·rw [if_pos c10] at H
        have c10b0 := decide_eq_true c10
        clear c10
        by_cases c11 : 0 ≤ x6_1
        ·rw [if_pos c11] at H
         have c11b0 := decide_eq_true c11
         clear c11
         by_cases c12 : x6_1 < (t389.length : Int)
         ·rw [if_pos c12] at H
          have c12b0 := decide_eq_true c12
          clear c12
          obtain ⟨ji13, hji13⟩ : ∃ j_ : Int, (wrap64 (x7_2 - 1)) = j_ := ⟨_, rfl⟩
          replace H : (if 0 ≤ (ji13) then (if (ji13) < (x5_1.length : Int) then ((entry_Ahead.f k2 ((rd_T25 t389 x6_1).f0) ((rd_T25 t389 x6_1).f1) ((rd_T25 t389 x6_1).f2) ((rd_T25 x5_1 (ji13)).f0) ((rd_T25 x5_1 (ji13)).f1) ((rd_T25 x5_1 (ji13)).f2) true).bind fun t394 => (if t394 = true then (archivistlaw13_EntrySorted.l1 k2 true t389 x5_1 x6_1 ji13) else (if 0 ≤ x7_2 then (if x7_2 ≤ (x5_1.length : Int) then ((some (x5_1.take (x7_2 : Int).toNat : List (S25))).bind fun y395 => (if ([] : List (S25)).length + y395.length < 2932031007402 then ((some (([] : List (S25)) ++ y395 : List (S25))).bind fun y400 => (if y400.length < 2932031007402 then ((some (y400 ++ [(⟨(rd_T25 t389 x6_1).f0, (rd_T25 t389 x6_1).f1, (rd_T25 t389 x6_1).f2⟩ : S25)] : List (S25))).bind fun y404 => ((some (x5_1.drop (x7_2 : Int).toNat : List (S25))).bind fun y407 => (if y404.length + y407.length < 2932031007402 then (archivistlaw13_EntrySorted.l0 k2 true t389 (y404 ++ y407) (wrap64 (x6_1 + 1))) else (none)))) else (none))) else (none))) else (none)) else (none)))) else (none)) else (none)) = some r := by first | (rw [hji13] at H; exact H) | (simp only [hji13] at H ⊢; exact H)
          have hji13w : (IntKind.i64.wrap (x7_2 - 1)) = ji13 := (i64_w _).trans hji13
          by_cases c14 : 0 ≤ (ji13)
          ·rw [if_pos c14] at H
           have c14b0 := decide_eq_true c14
           clear c14
           by_cases c15 : (ji13) < (x5_1.length : Int)
           ·rw [if_pos c15] at H
            have c15b0 := decide_eq_true c15
            clear c15
            replace H := Option.bind_eq_some_iff.mp H
            obtain ⟨t394, A160, H⟩ := H
            replace H : (if t394 = true then (archivistlaw13_EntrySorted.l1 k2 true t389 x5_1 x6_1 ji13) else (if 0 ≤ x7_2 then (if x7_2 ≤ (x5_1.length : Int) then ((some (x5_1.take (x7_2 : Int).toNat : List (S25))).bind fun y395 => (if ([] : List (S25)).length + y395.length < 2932031007402 then ((some (([] : List (S25)) ++ y395 : List (S25))).bind fun y400 => (if y400.length < 2932031007402 then ((some (y400 ++ [(⟨(rd_T25 t389 x6_1).f0, (rd_T25 t389 x6_1).f1, (rd_T25 t389 x6_1).f2⟩ : S25)] : List (S25))).bind fun y404 => ((some (x5_1.drop (x7_2 : Int).toNat : List (S25))).bind fun y407 => (if y404.length + y407.length < 2932031007402 then (archivistlaw13_EntrySorted.l0 k2 true t389 (y404 ++ y407) (wrap64 (x6_1 + 1))) else (none)))) else (none))) else (none))) else (none)) else (none))) = some r := H
            have A16 := Aside0.mk A160
            clear A160
            by_cases c17 : t394 = true
            ·subst c17
             have H1 : (archivistlaw13_EntrySorted.l1 k2 true t389 x5_1 x6_1 ji13) = some r := by rw [if_pos rfl] at H; exact H
             clear H
             have H := H1
             clear H1
             have H' := Aside0.mk H
             clear H
             try go_wp2
             have n0_ := Aside0.mk (Kd.N_drew HO_4.out)
             have n1_ := Aside0.mk (Kd.N_drew HO_5.out)
             have n2_ := Aside0.mk (below_drew1 HB.out)
             clear HO_4
             clear HO_5
             clear HB
             have HO_4 := n0_
             have HO_5 := n1_
             have HB := n2_
             clear n0_ n1_ n2_
             have p392 : 0 ≤ (x6_1 : Int) := od
             have q392 : x6_1 < (t389.length : Int) := od
             obtain ⟨ad392, A392_1, c392_1, e392, hx392_0, hx392_1, hx392_2, hl392_1, hi392_1⟩ := at_T25 (Kd.N_reads' HO_4.out).2.2 x6_1 p392 q392
             cases e392
             obtain ⟨ce392, hce392, hMe392, hcc392⟩ := Kd.N_get HO_4.out z25 x6_1 p392 (by first | exact q392 | exact od | (have e_ := (Kd.N_reads' HO_4.out).1; omega))
             obtain ⟨ua392_1, uc392_1, rfl, ul392_1, ge392_1⟩ := k25_openF hMe392
             have hv392_1 := hcc392 1 _ rfl
             rw [add_field _ _ 1 (by omega)] at hv392_1
             replace hv392_1 := Option.some.inj (hv392_1.symm.trans hx392_1)
             injection hv392_1 with hva_ hvn_ hvc_
             rw [hva_] at ge392_1
             rw [hvc_] at ul392_1
             have HL392_1 := Aside0.mk (show Kd.V k48 48 _ w.heap.size _ _ ((rd_T25 t389 x6_1).f1) from Kd.V_mk ul392_1 ge392_1)
             clear hva_ hvn_ hvc_ ge392_1 ul392_1
             clear hcc392 hce392
             have HR392_1 := Aside0.mk hi392_1
             have HC392_1 := Aside0.mk hl392_1
             clear hi392_1 hl392_1
             replace p392 := eq_true p392
             replace q392 := eq_true q392
             have p393 : 0 ≤ ((ji13) : Int) := od
             have q393 : (ji13) < (x5_1.length : Int) := od
             obtain ⟨ad393, A393_1, c393_1, e393, hx393_0, hx393_1, hx393_2, hl393_1, hi393_1⟩ := at_T25 (Kd.N_reads' HO_5.out).2.2 (ji13) p393 q393
             cases e393
             obtain ⟨ce393, hce393, hMe393, hcc393⟩ := Kd.N_get HO_5.out z25 (ji13) p393 (by first | exact q393 | exact od | (have e_ := (Kd.N_reads' HO_5.out).1; omega))
             obtain ⟨ua393_1, uc393_1, rfl, ul393_1, ge393_1⟩ := k25_openF hMe393
             have hv393_1 := hcc393 1 _ rfl
             rw [add_field _ _ 1 (by omega)] at hv393_1
             replace hv393_1 := Option.some.inj (hv393_1.symm.trans hx393_1)
             injection hv393_1 with hva_ hvn_ hvc_
             rw [hva_] at ge393_1
             rw [hvc_] at ul393_1
             have HL393_1 := Aside0.mk (show Kd.V k48 48 _ w.heap.size _ _ ((rd_T25 x5_1 (ji13)).f1) from Kd.V_mk ul393_1 ge393_1)
             clear hva_ hvn_ hvc_ ge393_1 ul393_1
             clear hcc393 hce393
             have HR393_1 := Aside0.mk hi393_1
             have HC393_1 := Aside0.mk hl393_1
             clear hi393_1 hl393_1
             replace p393 := eq_true p393
             replace q393 := eq_true q393
             refine start_ (n := 14) (S := fun w' => w'.cell? (ad392.add ((x6_1).toNat * 3)) = some (.int .i64 ((rd_T25 t389 x6_1).f0)) ∧ w'.cell? ⟨(ad392.add ((x6_1).toNat * 3)).block, (ad392.add ((x6_1).toNat * 3)).off + 1, none⟩ = some (.slice A392_1 ((rd_T25 t389 x6_1).f1).length c392_1) ∧ w'.cell? ⟨(ad392.add ((x6_1).toNat * 3)).block, (ad392.add ((x6_1).toNat * 3)).off + 2, none⟩ = some (.string ((rd_T25 t389 x6_1).f2)) ∧ w'.cell? (ad393.add (((ji13)).toNat * 3)) = some (.int .i64 ((rd_T25 x5_1 (ji13)).f0)) ∧ w'.cell? ⟨(ad393.add (((ji13)).toNat * 3)).block, (ad393.add (((ji13)).toNat * 3)).off + 1, none⟩ = some (.slice A393_1 ((rd_T25 x5_1 (ji13)).f1).length c393_1) ∧ w'.cell? ⟨(ad393.add (((ji13)).toNat * 3)).block, (ad393.add (((ji13)).toNat * 3)).off + 2, none⟩ = some (.string ((rd_T25 x5_1 (ji13)).f2))) (ds := []) #[N_,N_,N_,N_,N_,N_,N_,N_,N_,N_,N_,N_,N_,N_] (by kernel_rfl) rfl rfl ⟨hx392_0, hx392_1, hx392_2, hx393_0, hx393_1, hx393_2⟩ (fun hHeld => ?_); refine with_tabW archivistlaw13_EntrySorted.tab10 archivistlaw13_EntrySorted.bits10 (fun HT_ HW_ => ?_)
             generalize wr.drew = w18 at HO_4 HO_5 HB HL392_1 HL393_1 HR392_1 HR393_1 hx392_0 hx392_1 hx392_2 hx393_0 hx393_1 hx393_2 hHeld ⊢
             refine pY 0 25 #[J_,N_,N_,N_,N_,N_,N_,N_,N_,N_,N_,N_,N_,N_] HT_.out ?_
             refine pY 1 26 #[J_,J_,N_,N_,N_,N_,N_,N_,N_,N_,N_,N_,N_,N_] HT_.out ?_
             refine pY 2 27 #[J_,J_,J_,N_,N_,N_,N_,N_,N_,N_,N_,N_,N_,N_] HT_.out ?_
             refine pY 3 28 #[J_,J_,J_,J_,N_,N_,N_,N_,N_,N_,N_,N_,N_,N_] HT_.out ?_
             refine pY 4 29 #[J_,J_,J_,J_,J_,N_,N_,N_,N_,N_,N_,N_,N_,N_] HT_.out ?_
             refine pY 5 30 #[J_,J_,J_,J_,J_,J_,N_,N_,N_,N_,N_,N_,N_,N_] HT_.out ?_
             refine pY 7 32 #[J_,J_,J_,J_,J_,J_,N_,J_,N_,N_,N_,N_,N_,N_] HT_.out ?_
             refine pY 8 33 #[J_,J_,J_,J_,J_,J_,N_,J_,J_,N_,N_,N_,N_,N_] HT_.out ?_
             refine pY 9 34 #[J_,J_,J_,J_,J_,J_,N_,J_,J_,J_,N_,N_,N_,N_] HT_.out ?_
             refine pY 10 35 #[J_,J_,J_,J_,J_,J_,N_,J_,J_,J_,J_,N_,N_,N_] HT_.out ?_
             refine take_ (i := 6) (N := some 31) (v := ?_) (a' := ?_) #[J_,J_,J_,J_,J_,J_,J_,J_,J_,J_,J_,N_,N_,N_] rfl rfl (take_ofW HT_.out HW_.out (by kernel_rfl)) (fun _ _ _ h => h) (Or.inl ⟨by rfl, ?_⟩) hHeld ?_ ?_
             rotate_left
             ·rintro w' ⟨s0, s1, s2, s3, s4, s5⟩
              go_simp
              with_reducible rfl
             rotate_left
             ·simp only [Act.put, List.setIfInBounds_toArray, List.set_cons_zero, List.set_cons_succ, i64_w, i32_w]
              rfl
             refine take_ (i := 11) (N := some 36) (v := ?_) (a' := ?_) #[J_,J_,J_,J_,J_,J_,J_,J_,J_,J_,J_,J_,N_,N_] rfl rfl (take_ofW HT_.out HW_.out (by kernel_rfl)) (fun _ _ _ h => h) (Or.inl ⟨by rfl, ?_⟩) hHeld ?_ ?_
             rotate_left
             ·rintro w' ⟨s0, s1, s2, s3, s4, s5⟩
              go_simp
              with_reducible rfl
             rotate_left
             ·simp only [Act.put, List.setIfInBounds_toArray, List.set_cons_zero, List.set_cons_succ, i64_w, i32_w]
              rfl
             refine one_ (i := 12) (N := some 37) #[J_,J_,J_,J_,J_,J_,J_,J_,J_,J_,J_,J_,J_,N_] rfl rfl (one_of HT_.out (by kernel_rfl)) (by decide) (fun K hK => ?_)
             refine goes_ Tryd.func14 (by kernel_rfl) rfl #[.agg #[.int .i64 ((rd_T25 t389 x6_1).f0), .slice A392_1 ((rd_T25 t389 x6_1).f1).length c392_1, .string ((rd_T25 t389 x6_1).f2)], .agg #[.int .i64 ((rd_T25 x5_1 (ji13)).f0), .slice A393_1 ((rd_T25 x5_1 (ji13)).f1).length c393_1, .string ((rd_T25 x5_1 (ji13)).f2)], .bool true] (by rfl) rfl rfl (by (try simp only [List.map_toArray, List.map_cons, List.map_nil]); first | done | (simp only [hji13]; rfl) | rfl | (simp only [List.length_drop, List.length_take]; rfl)) ?_
             with_reducible refine (entry_Ahead.calls k2 ((rd_T25 t389 x6_1).f0) _ _ ((rd_T25 t389 x6_1).f1) ((rd_T25 t389 x6_1).f2) ((rd_T25 x5_1 (ji13)).f0) _ _ ((rd_T25 x5_1 (ji13)).f1) ((rd_T25 x5_1 (ji13)).f2) true true _ ?side1 ?side2 ?side3 ?side4 A16.out).mono ?_
             (case side1 => repeat (first | exact (by repeat (first | (with_reducible exact HR392_1.out) | (with_reducible refine Kd.C_alloc ?_ _) | (with_reducible refine Kd.C_drewN ?_ _) | (with_reducible refine Kd.C_drew ?_) | exact HR392_1.out)) | (with_reducible refine Kd.C_alloc ?_ _) | (with_reducible refine Kd.C_drewN ?_ _) | (with_reducible refine Kd.C_drew ?_)))
             (case side2 => exact HC392_1.out)
             (case side3 => repeat (first | exact (by repeat (first | (with_reducible exact HR393_1.out) | (with_reducible refine Kd.C_alloc ?_ _) | (with_reducible refine Kd.C_drewN ?_ _) | (with_reducible refine Kd.C_drew ?_) | exact HR393_1.out)) | (with_reducible refine Kd.C_alloc ?_ _) | (with_reducible refine Kd.C_drewN ?_ _) | (with_reducible refine Kd.C_drew ?_)))
             (case side4 => exact HC393_1.out)
             rintro e w19 ⟨rfl, hb⟩
             have HS0_ := (hb.cell (World.block_lt_of_cell? _ _ (hHeld.1))).trans (hHeld.1)
             have HS1_ := (hb.cell (World.block_lt_of_cell? _ _ (hHeld.2.1))).trans (hHeld.2.1)
             have HS2_ := (hb.cell (World.block_lt_of_cell? _ _ (hHeld.2.2.1))).trans (hHeld.2.2.1)
             have HS3_ := (hb.cell (World.block_lt_of_cell? _ _ (hHeld.2.2.2.1))).trans (hHeld.2.2.2.1)
             have HS4_ := (hb.cell (World.block_lt_of_cell? _ _ (hHeld.2.2.2.2.1))).trans (hHeld.2.2.2.2.1)
             have HS5_ := (hb.cell (World.block_lt_of_cell? _ _ (hHeld.2.2.2.2.2))).trans (hHeld.2.2.2.2.2)
             refine ⟨_, rfl, ?_⟩
             have n0_ := Aside0.mk (Kd.N_below (by (with_reducible repeat (first | apply Kd.N_alloc | apply Kd.N_drewN | apply Kd.N_drew)); exact HO_4.out) hb)
             have n1_ := Aside0.mk (Kd.N_below (by (with_reducible repeat (first | apply Kd.N_alloc | apply Kd.N_drewN | apply Kd.N_drew)); exact HO_5.out) hb)
             have n2_ := Aside0.mk (Kd.V_below (by (with_reducible repeat (first | apply Kd.V_alloc | apply Kd.V_drewN | apply Kd.V_drew)); exact HL392_1.out) hb)
             have n3_ := Aside0.mk (Kd.V_below (by (with_reducible repeat (first | apply Kd.V_alloc | apply Kd.V_drewN | apply Kd.V_drew)); exact HL393_1.out) hb)
             have n4_ := Aside0.mk (Kd.C_below (by repeat (first | (with_reducible exact HR392_1.out) | (with_reducible refine Kd.C_alloc ?_ _) | (with_reducible refine Kd.C_drewN ?_ _) | (with_reducible refine Kd.C_drew ?_) | exact HR392_1.out)) hb)
             have n5_ := Aside0.mk (Kd.C_below (by repeat (first | (with_reducible exact HR393_1.out) | (with_reducible refine Kd.C_alloc ?_ _) | (with_reducible refine Kd.C_drewN ?_ _) | (with_reducible refine Kd.C_drew ?_) | exact HR393_1.out)) hb)
             have n6_ := Aside0.mk (below_step bl hb)
             clear HO_4
             clear HO_5
             clear HL392_1
             clear HL393_1
             clear HR392_1
             clear HR393_1
             clear HB
             have HO_4 := n0_
             have HO_5 := n1_
             have HL392_1 := n2_
             have HL393_1 := n3_
             have HR392_1 := n4_
             have HR393_1 := n5_
             have HB := n6_
             clear n0_ n1_ n2_ n3_ n4_ n5_ n6_
             (try clear hb)
             (try clear hb2)
             (try clear hk)
             (try clear hi)
             refine hK.out _ _ ⟨HS0_, HS1_, HS2_, HS3_, HS4_, HS5_⟩ (fun hHeld => ?_)
             clear hK K
             refine norm_ (a' := ?_) ?_ ?_
             rotate_left
             ·show Act.put _ (some 37) _ = _
              simp only [Act.put, List.setIfInBounds_toArray, List.set_cons_zero, List.set_cons_succ, i64_w, i32_w]
              rfl
             refine pY 13 38 #[J_,J_,J_,J_,J_,J_,J_,J_,J_,J_,J_,J_,J_,J_] HT_.out ?_
             refine done_ (done_of HT_.out (by kernel_rfl)) ?_
             try go_wp2
             go_roundg k2
             case measure => have := HK1.out; have := HK2.out; omega
             case rel => exact ⟨(ji13), (by first | rfl | (simp; done) | (simp only [← hji13] <;> (first | rfl | simp)) | (simp [*]; done)), H', ⟨by have := HK1.out; have := HK2.out; omega⟩, ⟨by (with_reducible repeat (first | apply Kd.N_alloc | apply Kd.N_drewN | apply Kd.N_drew)); exact HO_4.out⟩, ⟨by (with_reducible repeat (first | apply Kd.N_alloc | apply Kd.N_drewN | apply Kd.N_drew)); exact HO_5.out⟩, ⟨bl⟩⟩
            ·replace c17 := Bool.eq_false_iff.mpr c17
             subst c17
             have H1 : (if 0 ≤ x7_2 then (if x7_2 ≤ (x5_1.length : Int) then ((some (x5_1.take (x7_2 : Int).toNat : List (S25))).bind fun y395 => (if ([] : List (S25)).length + y395.length < 2932031007402 then ((some (([] : List (S25)) ++ y395 : List (S25))).bind fun y400 => (if y400.length < 2932031007402 then ((some (y400 ++ [(⟨(rd_T25 t389 x6_1).f0, (rd_T25 t389 x6_1).f1, (rd_T25 t389 x6_1).f2⟩ : S25)] : List (S25))).bind fun y404 => ((some (x5_1.drop (x7_2 : Int).toNat : List (S25))).bind fun y407 => (if y404.length + y407.length < 2932031007402 then (archivistlaw13_EntrySorted.l0 k2 true t389 (y404 ++ y407) (wrap64 (x6_1 + 1))) else (none)))) else (none))) else (none))) else (none)) else (none)) = some r := by rw [if_neg (show ¬ (false = true) by decide)] at H; exact H
             clear H
             have H := H1
             clear H1
             by_cases c20 : 0 ≤ x7_2
             ·rw [if_pos c20] at H
              have c20b0 := eq_true c20
              have c20b1 : decide (0 ≤ x7_2) = true := decide_eq_true c20
              clear c20
              by_cases c21 : x7_2 ≤ (x5_1.length : Int)
              ·rw [if_pos c21] at H
               have c21b0 := eq_true c21
               have c21b1 : decide (x7_2 ≤ (x5_1.length : Int)) = true := decide_eq_true c21
               clear c21
               obtain ⟨y395, hy395⟩ : ∃ y_ : List (S25), y_ = (x5_1.take (x7_2 : Int).toNat) := ⟨_, rfl⟩
               replace H : (if ([] : List (S25)).length + y395.length < 2932031007402 then ((some (([] : List (S25)) ++ y395 : List (S25))).bind fun y400 => (if y400.length < 2932031007402 then ((some (y400 ++ [(⟨(rd_T25 t389 x6_1).f0, (rd_T25 t389 x6_1).f1, (rd_T25 t389 x6_1).f2⟩ : S25)] : List (S25))).bind fun y404 => ((some (x5_1.drop (x7_2 : Int).toNat : List (S25))).bind fun y407 => (if y404.length + y407.length < 2932031007402 then (archivistlaw13_EntrySorted.l0 k2 true t389 (y404 ++ y407) (wrap64 (x6_1 + 1))) else (none)))) else (none))) else (none)) = some r := by first | (rw [hy395]; with_reducible exact H) | (have H2_ := (Option.bind_some _ _).symm.trans H; rw [hy395]; with_reducible exact H2_) | (have H2_ := (Option.bind_some _ _).symm.trans H; with_reducible exact H2_) | with_reducible exact H | (rw [hy395]; exact H) | exact H
               have Ny395 := Aside0.mk hy395
               clear hy395
               by_cases c22 : ([] : List (S25)).length + y395.length < 2932031007402
               ·rw [if_pos c22] at H
                have LMc22 := Aside0.mk c22
                clear c22
                obtain ⟨y400, hy400⟩ : ∃ y_ : List (S25), y_ = (([] : List (S25)) ++ y395) := ⟨_, rfl⟩
                replace H : (if y400.length < 2932031007402 then ((some (y400 ++ [(⟨(rd_T25 t389 x6_1).f0, (rd_T25 t389 x6_1).f1, (rd_T25 t389 x6_1).f2⟩ : S25)] : List (S25))).bind fun y404 => ((some (x5_1.drop (x7_2 : Int).toNat : List (S25))).bind fun y407 => (if y404.length + y407.length < 2932031007402 then (archivistlaw13_EntrySorted.l0 k2 true t389 (y404 ++ y407) (wrap64 (x6_1 + 1))) else (none)))) else (none)) = some r := by first | (rw [hy400]; with_reducible exact H) | (have H2_ := (Option.bind_some _ _).symm.trans H; rw [hy400]; with_reducible exact H2_) | (have H2_ := (Option.bind_some _ _).symm.trans H; with_reducible exact H2_) | with_reducible exact H | (rw [hy400]; exact H) | exact H
                have Ny400 := Aside0.mk hy400
                clear hy400
                by_cases c23 : y400.length < 2932031007402
                ·rw [if_pos c23] at H
                 have LMc23 := Aside0.mk c23
                 clear c23
                 obtain ⟨y404, hy404⟩ : ∃ y_ : List (S25), y_ = (y400 ++ [(⟨(rd_T25 t389 x6_1).f0, (rd_T25 t389 x6_1).f1, (rd_T25 t389 x6_1).f2⟩ : S25)]) := ⟨_, rfl⟩
                 replace H : ((some (x5_1.drop (x7_2 : Int).toNat : List (S25))).bind fun y407 => (if y404.length + y407.length < 2932031007402 then (archivistlaw13_EntrySorted.l0 k2 true t389 (y404 ++ y407) (wrap64 (x6_1 + 1))) else (none))) = some r := by first | (rw [hy404]; with_reducible exact H) | (have H2_ := (Option.bind_some _ _).symm.trans H; rw [hy404]; with_reducible exact H2_) | (have H2_ := (Option.bind_some _ _).symm.trans H; with_reducible exact H2_) | with_reducible exact H | (rw [hy404]; exact H) | exact H
                 have Ny404 := Aside0.mk hy404
                 clear hy404
                 have c24b0 := eq_true (od : 0 ≤ x7_2)
                 have c25b0 := eq_true (od : x7_2 ≤ (x5_1.length : Int))
                 obtain ⟨y407, hy407⟩ : ∃ y_ : List (S25), y_ = (x5_1.drop (x7_2 : Int).toNat) := ⟨_, rfl⟩
                 replace H : (if y404.length + y407.length < 2932031007402 then (archivistlaw13_EntrySorted.l0 k2 true t389 (y404 ++ y407) (wrap64 (x6_1 + 1))) else (none)) = some r := by first | (rw [hy407]; with_reducible exact H) | (have H2_ := (Option.bind_some _ _).symm.trans H; rw [hy407]; with_reducible exact H2_) | (have H2_ := (Option.bind_some _ _).symm.trans H; with_reducible exact H2_) | with_reducible exact H | (rw [hy407]; exact H) | exact H
                 have Ny407 := Aside0.mk hy407
                 clear hy407
                 by_cases c26 : y404.length + y407.length < 2932031007402
                 ·rw [if_pos c26] at H
                  have LMc26 := Aside0.mk c26
                  clear c26
                  obtain ⟨y412, hy412⟩ : ∃ y_ : List (S25), y_ = (y404 ++ y407) := ⟨_, rfl⟩
                  replace H : (archivistlaw13_EntrySorted.l0 k2 true t389 y412 (wrap64 (x6_1 + 1))) = some r := by first | (rw [hy412]; with_reducible exact H) | (have H2_ := (Option.bind_some _ _).symm.trans H; rw [hy412]; with_reducible exact H2_) | (have H2_ := (Option.bind_some _ _).symm.trans H; with_reducible exact H2_) | with_reducible exact H | (rw [hy412]; exact H) | exact H
                  have Ny412 := Aside0.mk hy412
                  clear hy412
                  have H' := Aside0.mk H
                  clear H
                  try go_wp2
                  have n0_ := Aside0.mk (Kd.N_drew HO_4.out)
                  have n1_ := Aside0.mk (Kd.N_drew HO_5.out)
                  have n2_ := Aside0.mk (below_drew1 HB.out)
                  clear HO_4
                  clear HO_5
                  clear HB
                  have HO_4 := n0_
                  have HO_5 := n1_
                  have HB := n2_
                  clear n0_ n1_ n2_
                  have p392 : 0 ≤ (x6_1 : Int) := od
                  have q392 : x6_1 < (t389.length : Int) := od
                  obtain ⟨ad392, A392_1, c392_1, e392, hx392_0, hx392_1, hx392_2, hl392_1, hi392_1⟩ := at_T25 (Kd.N_reads' HO_4.out).2.2 x6_1 p392 q392
                  cases e392
                  obtain ⟨ce392, hce392, hMe392, hcc392⟩ := Kd.N_get HO_4.out z25 x6_1 p392 (by first | exact q392 | exact od | (have e_ := (Kd.N_reads' HO_4.out).1; omega))
                  obtain ⟨ua392_1, uc392_1, rfl, ul392_1, ge392_1⟩ := k25_openF hMe392
                  have hv392_1 := hcc392 1 _ rfl
                  rw [add_field _ _ 1 (by omega)] at hv392_1
                  replace hv392_1 := Option.some.inj (hv392_1.symm.trans hx392_1)
                  injection hv392_1 with hva_ hvn_ hvc_
                  rw [hva_] at ge392_1
                  rw [hvc_] at ul392_1
                  have HL392_1 := Aside0.mk (show Kd.V k48 48 _ w.heap.size _ _ ((rd_T25 t389 x6_1).f1) from Kd.V_mk ul392_1 ge392_1)
                  clear hva_ hvn_ hvc_ ge392_1 ul392_1
                  clear hcc392 hce392
                  have HR392_1 := Aside0.mk hi392_1
                  have HC392_1 := Aside0.mk hl392_1
                  clear hi392_1 hl392_1
                  replace p392 := eq_true p392
                  replace q392 := eq_true q392
                  have p393 : 0 ≤ ((ji13) : Int) := od
                  have q393 : (ji13) < (x5_1.length : Int) := od
                  obtain ⟨ad393, A393_1, c393_1, e393, hx393_0, hx393_1, hx393_2, hl393_1, hi393_1⟩ := at_T25 (Kd.N_reads' HO_5.out).2.2 (ji13) p393 q393
                  cases e393
                  obtain ⟨ce393, hce393, hMe393, hcc393⟩ := Kd.N_get HO_5.out z25 (ji13) p393 (by first | exact q393 | exact od | (have e_ := (Kd.N_reads' HO_5.out).1; omega))
                  obtain ⟨ua393_1, uc393_1, rfl, ul393_1, ge393_1⟩ := k25_openF hMe393
                  have hv393_1 := hcc393 1 _ rfl
                  rw [add_field _ _ 1 (by omega)] at hv393_1
                  replace hv393_1 := Option.some.inj (hv393_1.symm.trans hx393_1)
                  injection hv393_1 with hva_ hvn_ hvc_
                  rw [hva_] at ge393_1
                  rw [hvc_] at ul393_1
                  have HL393_1 := Aside0.mk (show Kd.V k48 48 _ w.heap.size _ _ ((rd_T25 x5_1 (ji13)).f1) from Kd.V_mk ul393_1 ge393_1)
                  clear hva_ hvn_ hvc_ ge393_1 ul393_1
                  clear hcc393 hce393
                  have HR393_1 := Aside0.mk hi393_1
                  have HC393_1 := Aside0.mk hl393_1
                  clear hi393_1 hl393_1
                  replace p393 := eq_true p393
                  replace q393 := eq_true q393
                  refine start_ (n := 14) (S := fun w' => w'.cell? (ad392.add ((x6_1).toNat * 3)) = some (.int .i64 ((rd_T25 t389 x6_1).f0)) ∧ w'.cell? ⟨(ad392.add ((x6_1).toNat * 3)).block, (ad392.add ((x6_1).toNat * 3)).off + 1, none⟩ = some (.slice A392_1 ((rd_T25 t389 x6_1).f1).length c392_1) ∧ w'.cell? ⟨(ad392.add ((x6_1).toNat * 3)).block, (ad392.add ((x6_1).toNat * 3)).off + 2, none⟩ = some (.string ((rd_T25 t389 x6_1).f2)) ∧ w'.cell? (ad393.add (((ji13)).toNat * 3)) = some (.int .i64 ((rd_T25 x5_1 (ji13)).f0)) ∧ w'.cell? ⟨(ad393.add (((ji13)).toNat * 3)).block, (ad393.add (((ji13)).toNat * 3)).off + 1, none⟩ = some (.slice A393_1 ((rd_T25 x5_1 (ji13)).f1).length c393_1) ∧ w'.cell? ⟨(ad393.add (((ji13)).toNat * 3)).block, (ad393.add (((ji13)).toNat * 3)).off + 2, none⟩ = some (.string ((rd_T25 x5_1 (ji13)).f2))) (ds := []) #[N_,N_,N_,N_,N_,N_,N_,N_,N_,N_,N_,N_,N_,N_] (by kernel_rfl) rfl rfl ⟨hx392_0, hx392_1, hx392_2, hx393_0, hx393_1, hx393_2⟩ (fun hHeld => ?_); refine with_tabW archivistlaw13_EntrySorted.tab10 archivistlaw13_EntrySorted.bits10 (fun HT_ HW_ => ?_)
                  generalize wr.drew = w27 at HO_4 HO_5 HB HL392_1 HL393_1 HR392_1 HR393_1 hx392_0 hx392_1 hx392_2 hx393_0 hx393_1 hx393_2 hHeld ⊢
                  refine pY 0 25 #[J_,N_,N_,N_,N_,N_,N_,N_,N_,N_,N_,N_,N_,N_] HT_.out ?_
                  refine pY 1 26 #[J_,J_,N_,N_,N_,N_,N_,N_,N_,N_,N_,N_,N_,N_] HT_.out ?_
                  refine pY 2 27 #[J_,J_,J_,N_,N_,N_,N_,N_,N_,N_,N_,N_,N_,N_] HT_.out ?_
                  refine pY 3 28 #[J_,J_,J_,J_,N_,N_,N_,N_,N_,N_,N_,N_,N_,N_] HT_.out ?_
                  refine pY 4 29 #[J_,J_,J_,J_,J_,N_,N_,N_,N_,N_,N_,N_,N_,N_] HT_.out ?_
                  refine pY 5 30 #[J_,J_,J_,J_,J_,J_,N_,N_,N_,N_,N_,N_,N_,N_] HT_.out ?_
                  refine pY 7 32 #[J_,J_,J_,J_,J_,J_,N_,J_,N_,N_,N_,N_,N_,N_] HT_.out ?_
                  refine pY 8 33 #[J_,J_,J_,J_,J_,J_,N_,J_,J_,N_,N_,N_,N_,N_] HT_.out ?_
                  refine pY 9 34 #[J_,J_,J_,J_,J_,J_,N_,J_,J_,J_,N_,N_,N_,N_] HT_.out ?_
                  refine pY 10 35 #[J_,J_,J_,J_,J_,J_,N_,J_,J_,J_,J_,N_,N_,N_] HT_.out ?_
                  refine take_ (i := 6) (N := some 31) (v := ?_) (a' := ?_) #[J_,J_,J_,J_,J_,J_,J_,J_,J_,J_,J_,N_,N_,N_] rfl rfl (take_ofW HT_.out HW_.out (by kernel_rfl)) (fun _ _ _ h => h) (Or.inl ⟨by rfl, ?_⟩) hHeld ?_ ?_
                  rotate_left
                  ·rintro w' ⟨s0, s1, s2, s3, s4, s5⟩
                   go_simp
                   with_reducible rfl
                  rotate_left
                  ·simp only [Act.put, List.setIfInBounds_toArray, List.set_cons_zero, List.set_cons_succ, i64_w, i32_w]
                   rfl
                  refine take_ (i := 11) (N := some 36) (v := ?_) (a' := ?_) #[J_,J_,J_,J_,J_,J_,J_,J_,J_,J_,J_,J_,N_,N_] rfl rfl (take_ofW HT_.out HW_.out (by kernel_rfl)) (fun _ _ _ h => h) (Or.inl ⟨by rfl, ?_⟩) hHeld ?_ ?_
                  rotate_left
                  ·rintro w' ⟨s0, s1, s2, s3, s4, s5⟩
                   go_simp
                   with_reducible rfl
                  rotate_left
                  ·simp only [Act.put, List.setIfInBounds_toArray, List.set_cons_zero, List.set_cons_succ, i64_w, i32_w]
                   rfl
                  refine one_ (i := 12) (N := some 37) #[J_,J_,J_,J_,J_,J_,J_,J_,J_,J_,J_,J_,J_,N_] rfl rfl (one_of HT_.out (by kernel_rfl)) (by decide) (fun K hK => ?_)
                  refine goes_ Tryd.func14 (by kernel_rfl) rfl #[.agg #[.int .i64 ((rd_T25 t389 x6_1).f0), .slice A392_1 ((rd_T25 t389 x6_1).f1).length c392_1, .string ((rd_T25 t389 x6_1).f2)], .agg #[.int .i64 ((rd_T25 x5_1 (ji13)).f0), .slice A393_1 ((rd_T25 x5_1 (ji13)).f1).length c393_1, .string ((rd_T25 x5_1 (ji13)).f2)], .bool true] (by rfl) rfl rfl (by (try simp only [List.map_toArray, List.map_cons, List.map_nil]); first | done | (simp only [hji13]; rfl) | rfl | (simp only [List.length_drop, List.length_take]; rfl)) ?_
                  with_reducible refine (entry_Ahead.calls k2 ((rd_T25 t389 x6_1).f0) _ _ ((rd_T25 t389 x6_1).f1) ((rd_T25 t389 x6_1).f2) ((rd_T25 x5_1 (ji13)).f0) _ _ ((rd_T25 x5_1 (ji13)).f1) ((rd_T25 x5_1 (ji13)).f2) true false _ ?side1 ?side2 ?side3 ?side4 A16.out).mono ?_
                  (case side1 => repeat (first | exact (by repeat (first | (with_reducible exact HR392_1.out) | (with_reducible refine Kd.C_alloc ?_ _) | (with_reducible refine Kd.C_drewN ?_ _) | (with_reducible refine Kd.C_drew ?_) | exact HR392_1.out)) | (with_reducible refine Kd.C_alloc ?_ _) | (with_reducible refine Kd.C_drewN ?_ _) | (with_reducible refine Kd.C_drew ?_)))
                  (case side2 => exact HC392_1.out)
                  (case side3 => repeat (first | exact (by repeat (first | (with_reducible exact HR393_1.out) | (with_reducible refine Kd.C_alloc ?_ _) | (with_reducible refine Kd.C_drewN ?_ _) | (with_reducible refine Kd.C_drew ?_) | exact HR393_1.out)) | (with_reducible refine Kd.C_alloc ?_ _) | (with_reducible refine Kd.C_drewN ?_ _) | (with_reducible refine Kd.C_drew ?_)))
                  (case side4 => exact HC393_1.out)
                  rintro e w28 ⟨rfl, hb⟩
                  have HS0_ := (hb.cell (World.block_lt_of_cell? _ _ (hHeld.1))).trans (hHeld.1)
                  have HS1_ := (hb.cell (World.block_lt_of_cell? _ _ (hHeld.2.1))).trans (hHeld.2.1)
                  have HS2_ := (hb.cell (World.block_lt_of_cell? _ _ (hHeld.2.2.1))).trans (hHeld.2.2.1)
                  have HS3_ := (hb.cell (World.block_lt_of_cell? _ _ (hHeld.2.2.2.1))).trans (hHeld.2.2.2.1)
                  have HS4_ := (hb.cell (World.block_lt_of_cell? _ _ (hHeld.2.2.2.2.1))).trans (hHeld.2.2.2.2.1)
                  have HS5_ := (hb.cell (World.block_lt_of_cell? _ _ (hHeld.2.2.2.2.2))).trans (hHeld.2.2.2.2.2)
                  refine ⟨_, rfl, ?_⟩
                  have n0_ := Aside0.mk (Kd.N_below (by (with_reducible repeat (first | apply Kd.N_alloc | apply Kd.N_drewN | apply Kd.N_drew)); exact HO_4.out) hb)
                  have n1_ := Aside0.mk (Kd.N_below (by (with_reducible repeat (first | apply Kd.N_alloc | apply Kd.N_drewN | apply Kd.N_drew)); exact HO_5.out) hb)
                  have n2_ := Aside0.mk (Kd.V_below (by (with_reducible repeat (first | apply Kd.V_alloc | apply Kd.V_drewN | apply Kd.V_drew)); exact HL392_1.out) hb)
                  have n3_ := Aside0.mk (Kd.V_below (by (with_reducible repeat (first | apply Kd.V_alloc | apply Kd.V_drewN | apply Kd.V_drew)); exact HL393_1.out) hb)
                  have n4_ := Aside0.mk (Kd.C_below (by repeat (first | (with_reducible exact HR392_1.out) | (with_reducible refine Kd.C_alloc ?_ _) | (with_reducible refine Kd.C_drewN ?_ _) | (with_reducible refine Kd.C_drew ?_) | exact HR392_1.out)) hb)
                  have n5_ := Aside0.mk (Kd.C_below (by repeat (first | (with_reducible exact HR393_1.out) | (with_reducible refine Kd.C_alloc ?_ _) | (with_reducible refine Kd.C_drewN ?_ _) | (with_reducible refine Kd.C_drew ?_) | exact HR393_1.out)) hb)
                  have n6_ := Aside0.mk (below_step bl hb)
                  clear HO_4
                  clear HO_5
                  clear HL392_1
                  clear HL393_1
                  clear HR392_1
                  clear HR393_1
                  clear HB
                  have HO_4 := n0_
                  have HO_5 := n1_
                  have HL392_1 := n2_
                  have HL393_1 := n3_
                  have HR392_1 := n4_
                  have HR393_1 := n5_
                  have HB := n6_
                  clear n0_ n1_ n2_ n3_ n4_ n5_ n6_
                  (try clear hb)
                  (try clear hb2)
                  (try clear hk)
                  (try clear hi)
                  refine hK.out _ _ ⟨HS0_, HS1_, HS2_, HS3_, HS4_, HS5_⟩ (fun hHeld => ?_)
                  clear hK K
                  refine norm_ (a' := ?_) ?_ ?_
                  rotate_left
                  ·show Act.put _ (some 37) _ = _
                   simp only [Act.put, List.setIfInBounds_toArray, List.set_cons_zero, List.set_cons_succ, i64_w, i32_w]
                   rfl
                  refine pY 13 38 #[J_,J_,J_,J_,J_,J_,J_,J_,J_,J_,J_,J_,J_,J_] HT_.out ?_
                  refine done_ (done_of HT_.out (by kernel_rfl)) ?_
                  have q29 : (x7_2 : Int) ≤ ((x5_1.length : Int) : Int) := od
                  obtain ⟨i029, hi029, _, hsz29, _⟩ := info_parts info25
                  have hroom29 : x5_1.length ≤ co9 := (Kd.N_reads' HO_5.out).2.1
                  have hC29 : Kd.F k25 _ _ (some ad393) x5_1.length x5_1 := (Kd.V_at (base := w.heap.size) (Kd.N_V HO_5.out)).2.2
                  have hcut29 := cut_to (P := Tryd.prog) 43 25 .i64 Tryd.underlying43 hi029 (some ad393) x5_1.length co9 x7_2 (od) q29 hroom29
                  have hr29 := Kd.F_take (m := (x7_2 : Int).toNat) hC29 (by omega)
                  have hy29 : y395.length = (x7_2 : Int).toNat := (by rw [Ny395.out, List.length_take]; omega)
                  rw [← Ny395.out] at hr29
                  rw [← hy29] at hcut29
                  have HO399 := Aside0.mk (show Kd.V k25 25 _ w.heap.size _ (.slice (some ad393) y395.length co9) y395 from Kd.V_mk (by omega) hr29)
                  have HC399 := Aside0.mk (show y395.length ≤ co9 from by omega)
                  clear hr29 hC29 hroom29 hi029 hsz29
                  have KY29 := Aside0.mk hy29
                  clear hy29
                  replace q29 := eq_true q29
                  try go_wp2_with (first | ((with_reducible refine gate_builtin (b := .append) (xs := #[.tmp 41, .tmp 44]) rfl ?_); (try (refine gate_guard (by rfl) ?_; dsimp only)); at_builtin; refine Kd.N_append_rows k25 (w0 := w) w.heap.size rfl (.tmp 41) (.tmp 44) 43 25 (.agg #[(.int .i64 0), (.slice none 0 0), (.string ⟨#[]⟩)]) 48 rfl Tryd.underlying43 info25 rfl (by decide) (by omega) (.slice none 0 0) ([] : List (S25)) y395 _ _ _ (fun k_ => some k_ ≠ (.slice (some ad392) t389.length co8 : Value).ownBlock) (fun k_ => ((fun k_ => some k_ ≠ (.slice (some ad392) t389.length co8 : Value).ownBlock)) k_ ∧ some k_ ≠ (.slice none 0 0 : Value).ownBlock) rfl rfl ?aO ?aR (fun _ hk => hk) ?aF ?aB ?aS ?aL ?_; (case aR => exact (by skip; exact Kd.V_F (Kd.V_mono (ok' := (fun k_ => ((fun k_ => some k_ ≠ (.slice (some ad392) t389.length co8 : Value).ownBlock)) k_ ∧ some k_ ≠ (.slice none 0 0 : Value).ownBlock)) (HO399.out) (fun k_ hk => ⟨hk, (by simp [Value.ownBlock])⟩)))); (case aB => exact bl); (case aF => exact (fun k_ hk => Kd.fresh' (Kd.N_lt (by (with_reducible repeat (first | apply Kd.N_alloc | apply Kd.N_drewN | apply Kd.N_drew)); exact HO_4.out)) k_ hk)); (case aO => exact ((Kd.N_nil _ _ _ _ (fun k_ => some k_ ≠ (.slice (some ad392) t389.length co8 : Value).ownBlock)))); (case aS => exact (below_size bl)); (case aL => have := LMc22.out; omega); intro v401 w30 ho hb hg hat; rw [← Ny400.out] at ho; have n0_ := Aside0.mk (Kd.N_afterv (Kd.N_apart_nil (by (with_reducible repeat (first | apply Kd.N_alloc | apply Kd.N_drewN | apply Kd.N_drew)); exact HO_4.out)) hg hat); have n1_ := Aside0.mk (Kd.N_afterv (Kd.N_apart_nil (by (with_reducible repeat (first | apply Kd.N_alloc | apply Kd.N_drewN | apply Kd.N_drew)); exact HO_5.out)) hg hat); have n2_ := Aside0.mk (Kd.V_afterv (Kd.V_apart_nil (by (with_reducible repeat (first | apply Kd.V_alloc | apply Kd.V_drewN | apply Kd.V_drew)); exact HL392_1.out)) hg hat); have n3_ := Aside0.mk (Kd.V_afterv (Kd.V_apart_nil (by (with_reducible repeat (first | apply Kd.V_alloc | apply Kd.V_drewN | apply Kd.V_drew)); exact HL393_1.out)) hg hat); have n4_ := Aside0.mk (Kd.V_afterv (Kd.V_apart_nil (by (with_reducible repeat (first | apply Kd.V_alloc | apply Kd.V_drewN | apply Kd.V_drew)); exact HO399.out)) hg hat); have n5_ := Aside0.mk (hb); have n6_ := Aside0.mk (ho); clear HO_4; clear HO_5; clear HL392_1; clear HL393_1; clear HO399; clear HB; have HO_4 := n0_; have HO_5 := n1_; have HL392_1 := n2_; have HL393_1 := n3_; have HO399 := n4_; have HB := n5_; have HO402 := n6_; clear n0_ n1_ n2_ n3_ n4_ n5_ n6_; clear ho hb hg hat; have p403 : 0 ≤ (x6_1 : Int) := od; have q403 : x6_1 < (t389.length : Int) := od; obtain ⟨ad403, A403_1, c403_1, e403, hx403_0, hx403_1, hx403_2, hl403_1, hi403_1⟩ := at_T25 (Kd.N_reads' HO_4.out).2.2 x6_1 p403 q403; obtain rfl : ad392 = ad403 := (by injection e403); obtain ⟨ce403, hce403, hMe403, hcc403⟩ := Kd.N_get HO_4.out z25 x6_1 p403 (by first | exact q403 | exact od | (have e_ := (Kd.N_reads' HO_4.out).1; omega)); obtain ⟨ua403_1, uc403_1, rfl, ul403_1, ge403_1⟩ := k25_openF hMe403; have hv403_1 := hcc403 1 _ rfl; rw [add_field _ _ 1 (by omega)] at hv403_1; replace hv403_1 := Option.some.inj (hv403_1.symm.trans hx403_1); injection hv403_1 with hva_ hvn_ hvc_; rw [hva_] at ge403_1; rw [hvc_] at ul403_1; have HL403_1 := Aside0.mk (show Kd.V k48 48 _ w.heap.size _ _ ((rd_T25 t389 x6_1).f1) from Kd.V_mk ul403_1 ge403_1); clear hva_ hvn_ hvc_ ge403_1 ul403_1; clear hcc403 hce403; have HR403_1 := Aside0.mk hi403_1; have HC403_1 := Aside0.mk hl403_1; clear hi403_1 hl403_1; replace p403 := eq_true p403; replace q403 := eq_true q403) | ((with_reducible refine gate_builtin (b := .append) (xs := #[.tmp 46, .tmp 51]) rfl ?_); (try (refine gate_guard (by rfl) ?_; dsimp only)); at_builtin; refine Kd.N_append k25 (w0 := w) w.heap.size rfl (.tmp 46) (.tmp 51) 43 25 (.agg #[(.int .i64 0), (.slice none 0 0), (.string ⟨#[]⟩)]) 48 rfl Tryd.underlying43 info25 rfl (by decide) (by omega) v401 y400 (⟨(rd_T25 t389 x6_1).f0, (rd_T25 t389 x6_1).f1, (rd_T25 t389 x6_1).f2⟩ : S25) [.int .i64 ((rd_T25 t389 x6_1).f0), .slice A403_1 ((rd_T25 t389 x6_1).f1).length c403_1, .string ((rd_T25 t389 x6_1).f2)] (fun k_ => some k_ ≠ (.slice (some ad392) t389.length co8 : Value).ownBlock) (fun k_ => ((fun k_ => some k_ ≠ (.slice (some ad392) t389.length co8 : Value).ownBlock)) k_ ∧ some k_ ≠ (v401 : Value).ownBlock) rfl rfl ?aP (fun _ hk => hk) ?aF ?aO ?aB ?aS ?aL ?_; (case aP => exact (k25_mkF _ _ (⟨(rd_T25 t389 x6_1).f0, (rd_T25 t389 x6_1).f1, (rd_T25 t389 x6_1).f2⟩ : S25) (Kd.V_reads' (Kd.V_mono (ok' := (fun k_ => ((fun k_ => some k_ ≠ (.slice (some ad392) t389.length co8 : Value).ownBlock)) k_ ∧ some k_ ≠ (v401 : Value).ownBlock)) (HL403_1.out) (fun k_ hk => ⟨hk.2, hk.1.2⟩))).2.1 (Kd.V_F (Kd.V_mono (ok' := (fun k_ => ((fun k_ => some k_ ≠ (.slice (some ad392) t389.length co8 : Value).ownBlock)) k_ ∧ some k_ ≠ (v401 : Value).ownBlock)) (HL403_1.out) (fun k_ hk => ⟨hk.2, hk.1.2⟩))))); (case aB => exact bl); (case aF => exact (fun k_ hk => Kd.fresh' (Kd.N_lt (by (with_reducible repeat (first | apply Kd.N_alloc | apply Kd.N_drewN | apply Kd.N_drew)); exact HO_4.out)) k_ hk)); (case aO => exact (by (with_reducible repeat (first | apply Kd.N_alloc | apply Kd.N_drewN | apply Kd.N_drew)); exact HO402.out)); (case aS => exact (below_size bl)); (case aL => have := LMc23.out; omega); intro v405 w31 ho hb hg hat; rw [← Ny404.out] at ho; have n0_ := Aside0.mk (Kd.N_afterv (ok := (fun k_ => some k_ ≠ (.slice (some ad393) x5_1.length co9 : Value).ownBlock)) (by (with_reducible repeat (first | apply Kd.N_alloc | apply Kd.N_drewN | apply Kd.N_drew)); exact HO_4.out) hg hat); have n1_ := Aside0.mk (Kd.N_afterv (ok := (fun k_ => some k_ ≠ (.slice (some ad392) t389.length co8 : Value).ownBlock)) (by (with_reducible repeat (first | apply Kd.N_alloc | apply Kd.N_drewN | apply Kd.N_drew)); exact HO_5.out) hg hat); have n2_ := Aside0.mk (Kd.V_afterv (ok := (fun k_ => some k_ ≠ (.slice (some ad392) t389.length co8 : Value).ownBlock ∧ some k_ ≠ (.slice (some ad393) x5_1.length co9 : Value).ownBlock)) (by (with_reducible repeat (first | apply Kd.V_alloc | apply Kd.V_drewN | apply Kd.V_drew)); exact Kd.V_mono HL392_1.out (fun _ hk => by first | exact ⟨⟨hk.1.2, hk.1.1⟩, hk.2⟩ | grind)) hg hat); have n3_ := Aside0.mk (Kd.V_afterv (ok := (fun k_ => some k_ ≠ (.slice (some ad392) t389.length co8 : Value).ownBlock ∧ some k_ ≠ (.slice (some ad393) x5_1.length co9 : Value).ownBlock)) (by (with_reducible repeat (first | apply Kd.V_alloc | apply Kd.V_drewN | apply Kd.V_drew)); exact HL393_1.out) hg hat); have n4_ := Aside0.mk (Kd.V_afterv (ok := (fun k_ => some k_ ≠ (.slice (some ad392) t389.length co8 : Value).ownBlock)) (by (with_reducible repeat (first | apply Kd.V_alloc | apply Kd.V_drewN | apply Kd.V_drew)); exact HO399.out) hg hat); have n5_ := Aside0.mk (Kd.V_afterv (ok := (fun k_ => some k_ ≠ (.slice (some ad392) t389.length co8 : Value).ownBlock ∧ some k_ ≠ (.slice (some ad393) x5_1.length co9 : Value).ownBlock)) (by (with_reducible repeat (first | apply Kd.V_alloc | apply Kd.V_drewN | apply Kd.V_drew)); exact Kd.V_mono HL403_1.out (fun _ hk => by first | exact ⟨⟨hk.2, hk.1.1⟩, hk.1.2⟩ | grind)) hg hat); have n6_ := Aside0.mk (hb); have n7_ := Aside0.mk (ho); clear HO_4; clear HO_5; clear HL392_1; clear HL393_1; clear HO399; clear HL403_1; clear HB; clear HO402; have HO_4 := n0_; have HO_5 := n1_; have HL392_1 := n2_; have HL393_1 := n3_; have HO399 := n4_; have HL403_1 := n5_; have HB := n6_; have HO406 := n7_; clear n0_ n1_ n2_ n3_ n4_ n5_ n6_ n7_; clear ho hb hg hat; have q32 : (x7_2 : Int) ≤ ((x5_1.length : Int) : Int) := od; obtain ⟨i032, hi032, _, hsz32, _⟩ := info_parts info25; have hroom32 : x5_1.length ≤ co9 := (Kd.N_reads' HO_5.out).2.1; have hC32 : Kd.F k25 _ _ (some ad393) x5_1.length x5_1 := (Kd.V_at (base := w.heap.size) (Kd.N_V HO_5.out)).2.2; have q032 : (0 : Int) ≤ (x7_2 : Int) := od; have hcut32 := cut_from (P := Tryd.prog) 43 25 .i64 Tryd.underlying43 hi032 3 hsz32 (some ad393) x5_1.length co9 x7_2 q032 q32; have hr32 := Kd.F_cut (m := (x7_2 : Int).toNat) (c := co9) hC32 (by omega) hroom32; obtain ⟨A32, hA32⟩ : ∃ A1, A1 = (if co9 = (x7_2 : Int).toNat then (some ad393) else ((some ad393) : Option Addr).map (·.add ((x7_2 : Int).toNat * 3))) := ⟨_, rfl⟩; obtain ⟨c32, hc32⟩ : ∃ c1, c1 = co9 - (x7_2 : Int).toNat := ⟨_, rfl⟩; have hy32 : y407.length = x5_1.length - (x7_2 : Int).toNat := (by rw [Ny407.out, List.length_drop] <;> omega); rw [show (x5_1).drop (x7_2 : Int).toNat = y407 from Ny407.out.symm] at hr32; replace hr32 : Kd.F k25 _ _ A32 y407.length y407 := (by rw [hA32]; exact hr32); rw [← hy32, ← hA32, ← hc32] at hcut32; have HO411 := Aside0.mk (show Kd.V k25 25 _ w.heap.size _ (.slice A32 y407.length c32) y407 from Kd.V_mk (by rw [hy32, hc32]; exact Nat.sub_le_sub_right hroom32 _) hr32); have HC411 := Aside0.mk (show y407.length ≤ c32 from by rw [hy32, hc32]; exact Nat.sub_le_sub_right hroom32 _); clear hr32 hC32 hroom32 hi032 hsz32 hc32; have KY32 := Aside0.mk hy32; have KA32 := Aside0.mk hA32; clear hy32 hA32; replace q32 := eq_true q32) | ((with_reducible refine gate_builtin (b := .append) (xs := #[.tmp 53, .tmp 56]) rfl ?_); (try (refine gate_guard (by rfl) ?_; dsimp only)); at_builtin; refine Kd.N_append_rows k25 (w0 := w) w.heap.size rfl (.tmp 53) (.tmp 56) 43 25 (.agg #[(.int .i64 0), (.slice none 0 0), (.string ⟨#[]⟩)]) 48 rfl Tryd.underlying43 info25 rfl (by decide) (by omega) v405 y404 y407 _ _ _ (fun k_ => some k_ ≠ (.slice (some ad392) t389.length co8 : Value).ownBlock) (fun k_ => ((fun k_ => some k_ ≠ (.slice (some ad392) t389.length co8 : Value).ownBlock)) k_ ∧ some k_ ≠ (v405 : Value).ownBlock) rfl rfl ?aO ?aR (fun _ hk => hk) ?aF ?aB ?aS ?aL ?_; (case aR => exact (by skip; exact Kd.V_F (Kd.V_mono (ok' := (fun k_ => ((fun k_ => some k_ ≠ (.slice (some ad392) t389.length co8 : Value).ownBlock)) k_ ∧ some k_ ≠ (v405 : Value).ownBlock)) (HO411.out) (fun k_ hk => ⟨hk.1, hk.2⟩)))); (case aB => exact bl); (case aF => exact (fun k_ hk => Kd.fresh' (Kd.N_lt (by (with_reducible repeat (first | apply Kd.N_alloc | apply Kd.N_drewN | apply Kd.N_drew)); exact HO_4.out)) k_ hk)); (case aO => exact (by (with_reducible repeat (first | apply Kd.N_alloc | apply Kd.N_drewN | apply Kd.N_drew)); exact HO406.out)); (case aS => exact (below_size bl)); (case aL => have := LMc26.out; omega); intro v413 w33 ho hb hg hat; rw [← Ny412.out] at ho; have n0_ := Aside0.mk (Kd.N_afterv (ok := (fun k_ => some k_ ≠ (.slice (some ad393) x5_1.length co9 : Value).ownBlock)) (by (with_reducible repeat (first | apply Kd.N_alloc | apply Kd.N_drewN | apply Kd.N_drew)); exact HO_4.out) hg hat); have n1_ := Aside0.mk (Kd.N_afterv (ok := (fun k_ => some k_ ≠ (.slice (some ad392) t389.length co8 : Value).ownBlock)) (by (with_reducible repeat (first | apply Kd.N_alloc | apply Kd.N_drewN | apply Kd.N_drew)); exact HO_5.out) hg hat); have n2_ := Aside0.mk (Kd.V_afterv (ok := (fun k_ => some k_ ≠ (.slice (some ad392) t389.length co8 : Value).ownBlock ∧ some k_ ≠ (.slice (some ad393) x5_1.length co9 : Value).ownBlock)) (by (with_reducible repeat (first | apply Kd.V_alloc | apply Kd.V_drewN | apply Kd.V_drew)); exact HL392_1.out) hg hat); have n3_ := Aside0.mk (Kd.V_afterv (ok := (fun k_ => some k_ ≠ (.slice (some ad392) t389.length co8 : Value).ownBlock ∧ some k_ ≠ (.slice (some ad393) x5_1.length co9 : Value).ownBlock)) (by (with_reducible repeat (first | apply Kd.V_alloc | apply Kd.V_drewN | apply Kd.V_drew)); exact HL393_1.out) hg hat); have n4_ := Aside0.mk (Kd.V_afterv (ok := (fun k_ => some k_ ≠ (.slice (some ad392) t389.length co8 : Value).ownBlock)) (by (with_reducible repeat (first | apply Kd.V_alloc | apply Kd.V_drewN | apply Kd.V_drew)); exact HO399.out) hg hat); have n5_ := Aside0.mk (Kd.V_afterv (ok := (fun k_ => some k_ ≠ (.slice (some ad392) t389.length co8 : Value).ownBlock ∧ some k_ ≠ (.slice (some ad393) x5_1.length co9 : Value).ownBlock)) (by (with_reducible repeat (first | apply Kd.V_alloc | apply Kd.V_drewN | apply Kd.V_drew)); exact HL403_1.out) hg hat); have n6_ := Aside0.mk (Kd.V_afterv (ok := (fun k_ => some k_ ≠ (.slice (some ad392) t389.length co8 : Value).ownBlock)) (by (with_reducible repeat (first | apply Kd.V_alloc | apply Kd.V_drewN | apply Kd.V_drew)); exact HO411.out) hg hat); have n7_ := Aside0.mk (hb); have n8_ := Aside0.mk (ho); clear HO_4; clear HO_5; clear HL392_1; clear HL393_1; clear HO399; clear HL403_1; clear HO411; clear HB; clear HO406; have HO_4 := n0_; have HO_5 := n1_; have HL392_1 := n2_; have HL393_1 := n3_; have HO399 := n4_; have HL403_1 := n5_; have HO411 := n6_; have HB := n7_; have HO414 := n8_; clear n0_ n1_ n2_ n3_ n4_ n5_ n6_ n7_ n8_; clear ho hb hg hat))
                  go_roundg k2
                  case measure => have := HK1.out; have := HK2.out; omega
                  case rel => exact ⟨(y412), (wrap64 (x6_1 + 1)), rs, H', ⟨by have := HK1.out; have := HK2.out; omega⟩, ⟨by (with_reducible repeat (first | apply Kd.N_alloc | apply Kd.N_drewN | apply Kd.N_drew)); exact Kd.N_mono HO_4.out (fun _ hk => hk.2)⟩, ⟨by (with_reducible repeat (first | apply Kd.N_alloc | apply Kd.N_drewN | apply Kd.N_drew)); exact HO414.out⟩, ⟨bl⟩⟩
                 ·rw [if_neg c26] at H
                  exact absurd H (by simp)
                ·rw [if_neg c23] at H
                 exact absurd H (by simp)
               ·rw [if_neg c22] at H
                exact absurd H (by simp)
              ·rw [if_neg c21] at H
               exact absurd H (by simp)
             ·rw [if_neg c20] at H
              exact absurd H (by simp)
           ·rw [if_neg c15] at H
            exact absurd H (by simp)
          ·rw [if_neg c14] at H
           exact absurd H (by simp)
         ·rw [if_neg c12] at H
          exact absurd H (by simp)
        ·rw [if_neg c11] at H
         exact absurd H (by simp)
       ·rw [if_neg c10] at H
        have c10b0 : decide (0 < x7_2) = false := decide_eq_false c10
        clear c10
        by_cases c34 : 0 ≤ x7_2
        ·rw [if_pos c34] at H
         have c34b0 := eq_true c34
         have c34b1 : decide (0 ≤ x7_2) = true := decide_eq_true c34
         clear c34
         by_cases c35 : x7_2 ≤ (x5_1.length : Int)
         ·rw [if_pos c35] at H
          have c35b0 := eq_true c35
          have c35b1 : decide (x7_2 ≤ (x5_1.length : Int)) = true := decide_eq_true c35
          clear c35
          obtain ⟨y415, hy415⟩ : ∃ y_ : List (S25), y_ = (x5_1.take (x7_2 : Int).toNat) := ⟨_, rfl⟩
          replace H : (if ([] : List (S25)).length + y415.length < 2932031007402 then ((some (([] : List (S25)) ++ y415 : List (S25))).bind fun y420 => (if 0 ≤ x6_1 then (if x6_1 < (t389.length : Int) then (if y420.length < 2932031007402 then ((some (y420 ++ [(⟨(rd_T25 t389 x6_1).f0, (rd_T25 t389 x6_1).f1, (rd_T25 t389 x6_1).f2⟩ : S25)] : List (S25))).bind fun y424 => ((some (x5_1.drop (x7_2 : Int).toNat : List (S25))).bind fun y427 => (if y424.length + y427.length < 2932031007402 then (archivistlaw13_EntrySorted.l0 k2 true t389 (y424 ++ y427) (wrap64 (x6_1 + 1))) else (none)))) else (none)) else (none)) else (none))) else (none)) = some r := by first | (rw [hy415]; with_reducible exact H) | (have H2_ := (Option.bind_some _ _).symm.trans H; rw [hy415]; with_reducible exact H2_) | (have H2_ := (Option.bind_some _ _).symm.trans H; with_reducible exact H2_) | with_reducible exact H | (rw [hy415]; exact H) | exact H
          have Ny415 := Aside0.mk hy415
          clear hy415
          by_cases c36 : ([] : List (S25)).length + y415.length < 2932031007402
          ·rw [if_pos c36] at H
           have LMc36 := Aside0.mk c36
           clear c36
           obtain ⟨y420, hy420⟩ : ∃ y_ : List (S25), y_ = (([] : List (S25)) ++ y415) := ⟨_, rfl⟩
           replace H : (if 0 ≤ x6_1 then (if x6_1 < (t389.length : Int) then (if y420.length < 2932031007402 then ((some (y420 ++ [(⟨(rd_T25 t389 x6_1).f0, (rd_T25 t389 x6_1).f1, (rd_T25 t389 x6_1).f2⟩ : S25)] : List (S25))).bind fun y424 => ((some (x5_1.drop (x7_2 : Int).toNat : List (S25))).bind fun y427 => (if y424.length + y427.length < 2932031007402 then (archivistlaw13_EntrySorted.l0 k2 true t389 (y424 ++ y427) (wrap64 (x6_1 + 1))) else (none)))) else (none)) else (none)) else (none)) = some r := by first | (rw [hy420]; with_reducible exact H) | (have H2_ := (Option.bind_some _ _).symm.trans H; rw [hy420]; with_reducible exact H2_) | (have H2_ := (Option.bind_some _ _).symm.trans H; with_reducible exact H2_) | with_reducible exact H | (rw [hy420]; exact H) | exact H
           have Ny420 := Aside0.mk hy420
           clear hy420
           by_cases c37 : 0 ≤ x6_1
           ·rw [if_pos c37] at H
            have c37b0 := decide_eq_true c37
            clear c37
            by_cases c38 : x6_1 < (t389.length : Int)
            ·rw [if_pos c38] at H
             have c38b0 := decide_eq_true c38
             clear c38
             by_cases c39 : y420.length < 2932031007402
             ·rw [if_pos c39] at H
              have LMc39 := Aside0.mk c39
              clear c39
              obtain ⟨y424, hy424⟩ : ∃ y_ : List (S25), y_ = (y420 ++ [(⟨(rd_T25 t389 x6_1).f0, (rd_T25 t389 x6_1).f1, (rd_T25 t389 x6_1).f2⟩ : S25)]) := ⟨_, rfl⟩
              replace H : ((some (x5_1.drop (x7_2 : Int).toNat : List (S25))).bind fun y427 => (if y424.length + y427.length < 2932031007402 then (archivistlaw13_EntrySorted.l0 k2 true t389 (y424 ++ y427) (wrap64 (x6_1 + 1))) else (none))) = some r := by first | (rw [hy424]; with_reducible exact H) | (have H2_ := (Option.bind_some _ _).symm.trans H; rw [hy424]; with_reducible exact H2_) | (have H2_ := (Option.bind_some _ _).symm.trans H; with_reducible exact H2_) | with_reducible exact H | (rw [hy424]; exact H) | exact H
              have Ny424 := Aside0.mk hy424
              clear hy424
              have c40b0 := eq_true (od : 0 ≤ x7_2)
              have c41b0 := eq_true (od : x7_2 ≤ (x5_1.length : Int))
              obtain ⟨y427, hy427⟩ : ∃ y_ : List (S25), y_ = (x5_1.drop (x7_2 : Int).toNat) := ⟨_, rfl⟩
              replace H : (if y424.length + y427.length < 2932031007402 then (archivistlaw13_EntrySorted.l0 k2 true t389 (y424 ++ y427) (wrap64 (x6_1 + 1))) else (none)) = some r := by first | (rw [hy427]; with_reducible exact H) | (have H2_ := (Option.bind_some _ _).symm.trans H; rw [hy427]; with_reducible exact H2_) | (have H2_ := (Option.bind_some _ _).symm.trans H; with_reducible exact H2_) | with_reducible exact H | (rw [hy427]; exact H) | exact H
              have Ny427 := Aside0.mk hy427
              clear hy427
              by_cases c42 : y424.length + y427.length < 2932031007402
              ·rw [if_pos c42] at H
               have LMc42 := Aside0.mk c42
               clear c42
               obtain ⟨y432, hy432⟩ : ∃ y_ : List (S25), y_ = (y424 ++ y427) := ⟨_, rfl⟩
               replace H : (archivistlaw13_EntrySorted.l0 k2 true t389 y432 (wrap64 (x6_1 + 1))) = some r := by first | (rw [hy432]; with_reducible exact H) | (have H2_ := (Option.bind_some _ _).symm.trans H; rw [hy432]; with_reducible exact H2_) | (have H2_ := (Option.bind_some _ _).symm.trans H; with_reducible exact H2_) | with_reducible exact H | (rw [hy432]; exact H) | exact H
               have Ny432 := Aside0.mk hy432
               clear hy432
               have H' := Aside0.mk H
               clear H
               try go_wp2
               have n0_ := Aside0.mk (Kd.N_drew HO_4.out)
               have n1_ := Aside0.mk (Kd.N_drew HO_5.out)
               have n2_ := Aside0.mk (below_drew1 HB.out)
               clear HO_4
               clear HO_5
               clear HB
               have HO_4 := n0_
               have HO_5 := n1_
               have HB := n2_
               clear n0_ n1_ n2_
               refine start_ (n := 14) (S := fun w' => True) (ds := []) #[N_,N_,N_,N_,N_,N_,N_,N_,N_,N_,N_,N_,N_,N_] (by kernel_rfl) rfl rfl trivial (fun hHeld => ?_); refine with_tabW archivistlaw13_EntrySorted.tab10 archivistlaw13_EntrySorted.bits10 (fun HT_ HW_ => ?_)
               generalize wr.drew = w43 at HO_4 HO_5 HB hHeld ⊢
               refine pY 0 25 #[J_,N_,N_,N_,N_,N_,N_,N_,N_,N_,N_,N_,N_,N_] HT_.out ?_
               refine pY 1 26 #[J_,J_,N_,N_,N_,N_,N_,N_,N_,N_,N_,N_,N_,N_] HT_.out ?_
               refine pY 2 27 #[J_,J_,J_,N_,N_,N_,N_,N_,N_,N_,N_,N_,N_,N_] HT_.out ?_
               refine pU 3 28 #[J_,J_,J_,J_,N_,N_,N_,N_,N_,N_,N_,N_,N_,N_] HT_.out ?_
               refine pU 4 29 #[J_,J_,J_,J_,J_,N_,N_,N_,N_,N_,N_,N_,N_,N_] HT_.out ?_
               refine pU 5 30 #[J_,J_,J_,J_,J_,J_,N_,N_,N_,N_,N_,N_,N_,N_] HT_.out ?_
               refine pU 6 31 #[J_,J_,J_,J_,J_,J_,J_,N_,N_,N_,N_,N_,N_,N_] HT_.out ?_
               refine pU 7 32 #[J_,J_,J_,J_,J_,J_,J_,J_,N_,N_,N_,N_,N_,N_] HT_.out ?_
               refine pU 8 33 #[J_,J_,J_,J_,J_,J_,J_,J_,J_,N_,N_,N_,N_,N_] HT_.out ?_
               refine pU 9 34 #[J_,J_,J_,J_,J_,J_,J_,J_,J_,J_,N_,N_,N_,N_] HT_.out ?_
               refine pU 10 35 #[J_,J_,J_,J_,J_,J_,J_,J_,J_,J_,J_,N_,N_,N_] HT_.out ?_
               refine pU 11 36 #[J_,J_,J_,J_,J_,J_,J_,J_,J_,J_,J_,J_,N_,N_] HT_.out ?_
               refine pU 12 37 #[J_,J_,J_,J_,J_,J_,J_,J_,J_,J_,J_,J_,J_,N_] HT_.out ?_
               refine pY 13 38 #[J_,J_,J_,J_,J_,J_,J_,J_,J_,J_,J_,J_,J_,J_] HT_.out ?_
               refine done_ (done_of HT_.out (by kernel_rfl)) ?_
               have q44 : (x7_2 : Int) ≤ ((x5_1.length : Int) : Int) := od
               obtain ⟨i044, hi044, _, hsz44, _⟩ := info_parts info25
               have hroom44 : x5_1.length ≤ co9 := (Kd.N_reads' HO_5.out).2.1
               have hC44 : Kd.F k25 _ _ Ao9 x5_1.length x5_1 := (Kd.V_at (base := w.heap.size) (Kd.N_V HO_5.out)).2.2
               have hcut44 := cut_to (P := Tryd.prog) 43 25 .i64 Tryd.underlying43 hi044 Ao9 x5_1.length co9 x7_2 (od) q44 hroom44
               have hr44 := Kd.F_take (m := (x7_2 : Int).toNat) hC44 (by omega)
               have hy44 : y415.length = (x7_2 : Int).toNat := (by rw [Ny415.out, List.length_take]; omega)
               rw [← Ny415.out] at hr44
               rw [← hy44] at hcut44
               have HO419 := Aside0.mk (show Kd.V k25 25 _ w.heap.size _ (.slice Ao9 y415.length co9) y415 from Kd.V_mk (by omega) hr44)
               have HC419 := Aside0.mk (show y415.length ≤ co9 from by omega)
               clear hr44 hC44 hroom44 hi044 hsz44
               have KY44 := Aside0.mk hy44
               clear hy44
               replace q44 := eq_true q44
               try go_wp2_with (first | ((with_reducible refine gate_builtin (b := .append) (xs := #[.tmp 41, .tmp 44]) rfl ?_); (try (refine gate_guard (by rfl) ?_; dsimp only)); at_builtin; refine Kd.N_append_rows k25 (w0 := w) w.heap.size rfl (.tmp 41) (.tmp 44) 43 25 (.agg #[(.int .i64 0), (.slice none 0 0), (.string ⟨#[]⟩)]) 48 rfl Tryd.underlying43 info25 rfl (by decide) (by omega) (.slice none 0 0) ([] : List (S25)) y415 _ _ _ (fun k_ => some k_ ≠ (.slice Ao8 t389.length co8 : Value).ownBlock) (fun k_ => ((fun k_ => some k_ ≠ (.slice Ao8 t389.length co8 : Value).ownBlock)) k_ ∧ some k_ ≠ (.slice none 0 0 : Value).ownBlock) rfl rfl ?aO ?aR (fun _ hk => hk) ?aF ?aB ?aS ?aL ?_; (case aR => exact (by skip; exact Kd.V_F (Kd.V_mono (ok' := (fun k_ => ((fun k_ => some k_ ≠ (.slice Ao8 t389.length co8 : Value).ownBlock)) k_ ∧ some k_ ≠ (.slice none 0 0 : Value).ownBlock)) (HO419.out) (fun k_ hk => ⟨hk, (by simp [Value.ownBlock])⟩)))); (case aB => exact bl); (case aF => exact (fun k_ hk => Kd.fresh' (Kd.N_lt (by (with_reducible repeat (first | apply Kd.N_alloc | apply Kd.N_drewN | apply Kd.N_drew)); exact HO_4.out)) k_ hk)); (case aO => exact ((Kd.N_nil _ _ _ _ (fun k_ => some k_ ≠ (.slice Ao8 t389.length co8 : Value).ownBlock)))); (case aS => exact (below_size bl)); (case aL => have := LMc36.out; omega); intro v421 w45 ho hb hg hat; rw [← Ny420.out] at ho; have n0_ := Aside0.mk (Kd.N_afterv (Kd.N_apart_nil (by (with_reducible repeat (first | apply Kd.N_alloc | apply Kd.N_drewN | apply Kd.N_drew)); exact HO_4.out)) hg hat); have n1_ := Aside0.mk (Kd.N_afterv (Kd.N_apart_nil (by (with_reducible repeat (first | apply Kd.N_alloc | apply Kd.N_drewN | apply Kd.N_drew)); exact HO_5.out)) hg hat); have n2_ := Aside0.mk (Kd.V_afterv (Kd.V_apart_nil (by (with_reducible repeat (first | apply Kd.V_alloc | apply Kd.V_drewN | apply Kd.V_drew)); exact HO419.out)) hg hat); have n3_ := Aside0.mk (hb); have n4_ := Aside0.mk (ho); clear HO_4; clear HO_5; clear HO419; clear HB; have HO_4 := n0_; have HO_5 := n1_; have HO419 := n2_; have HB := n3_; have HO422 := n4_; clear n0_ n1_ n2_ n3_ n4_; clear ho hb hg hat; have p423 : 0 ≤ (x6_1 : Int) := od; have q423 : x6_1 < (t389.length : Int) := od; obtain ⟨ad423, A423_1, c423_1, e423, hx423_0, hx423_1, hx423_2, hl423_1, hi423_1⟩ := at_T25 (Kd.N_reads' HO_4.out).2.2 x6_1 p423 q423; cases e423; obtain ⟨ce423, hce423, hMe423, hcc423⟩ := Kd.N_get HO_4.out z25 x6_1 p423 (by first | exact q423 | exact od | (have e_ := (Kd.N_reads' HO_4.out).1; omega)); obtain ⟨ua423_1, uc423_1, rfl, ul423_1, ge423_1⟩ := k25_openF hMe423; have hv423_1 := hcc423 1 _ rfl; rw [add_field _ _ 1 (by omega)] at hv423_1; replace hv423_1 := Option.some.inj (hv423_1.symm.trans hx423_1); injection hv423_1 with hva_ hvn_ hvc_; rw [hva_] at ge423_1; rw [hvc_] at ul423_1; have HL423_1 := Aside0.mk (show Kd.V k48 48 _ w.heap.size _ _ ((rd_T25 t389 x6_1).f1) from Kd.V_mk ul423_1 ge423_1); clear hva_ hvn_ hvc_ ge423_1 ul423_1; clear hcc423 hce423; have HR423_1 := Aside0.mk hi423_1; have HC423_1 := Aside0.mk hl423_1; clear hi423_1 hl423_1; replace p423 := eq_true p423; replace q423 := eq_true q423) | ((with_reducible refine gate_builtin (b := .append) (xs := #[.tmp 46, .tmp 51]) rfl ?_); (try (refine gate_guard (by rfl) ?_; dsimp only)); at_builtin; refine Kd.N_append k25 (w0 := w) w.heap.size rfl (.tmp 46) (.tmp 51) 43 25 (.agg #[(.int .i64 0), (.slice none 0 0), (.string ⟨#[]⟩)]) 48 rfl Tryd.underlying43 info25 rfl (by decide) (by omega) v421 y420 (⟨(rd_T25 t389 x6_1).f0, (rd_T25 t389 x6_1).f1, (rd_T25 t389 x6_1).f2⟩ : S25) [.int .i64 ((rd_T25 t389 x6_1).f0), .slice A423_1 ((rd_T25 t389 x6_1).f1).length c423_1, .string ((rd_T25 t389 x6_1).f2)] (fun k_ => some k_ ≠ (.slice (some ad423) t389.length co8 : Value).ownBlock) (fun k_ => ((fun k_ => some k_ ≠ (.slice (some ad423) t389.length co8 : Value).ownBlock)) k_ ∧ some k_ ≠ (v421 : Value).ownBlock) rfl rfl ?aP (fun _ hk => hk) ?aF ?aO ?aB ?aS ?aL ?_; (case aP => exact (k25_mkF _ _ (⟨(rd_T25 t389 x6_1).f0, (rd_T25 t389 x6_1).f1, (rd_T25 t389 x6_1).f2⟩ : S25) (Kd.V_reads' (Kd.V_mono (ok' := (fun k_ => ((fun k_ => some k_ ≠ (.slice (some ad423) t389.length co8 : Value).ownBlock)) k_ ∧ some k_ ≠ (v421 : Value).ownBlock)) (HL423_1.out) (fun k_ hk => ⟨hk.2, hk.1.2⟩))).2.1 (Kd.V_F (Kd.V_mono (ok' := (fun k_ => ((fun k_ => some k_ ≠ (.slice (some ad423) t389.length co8 : Value).ownBlock)) k_ ∧ some k_ ≠ (v421 : Value).ownBlock)) (HL423_1.out) (fun k_ hk => ⟨hk.2, hk.1.2⟩))))); (case aB => exact bl); (case aF => exact (fun k_ hk => Kd.fresh' (Kd.N_lt (by (with_reducible repeat (first | apply Kd.N_alloc | apply Kd.N_drewN | apply Kd.N_drew)); exact HO_4.out)) k_ hk)); (case aO => exact (by (with_reducible repeat (first | apply Kd.N_alloc | apply Kd.N_drewN | apply Kd.N_drew)); exact HO422.out)); (case aS => exact (below_size bl)); (case aL => have := LMc39.out; omega); intro v425 w46 ho hb hg hat; rw [← Ny424.out] at ho; have n0_ := Aside0.mk (Kd.N_afterv (ok := (fun k_ => some k_ ≠ (.slice Ao9 x5_1.length co9 : Value).ownBlock)) (by (with_reducible repeat (first | apply Kd.N_alloc | apply Kd.N_drewN | apply Kd.N_drew)); exact HO_4.out) hg hat); have n1_ := Aside0.mk (Kd.N_afterv (ok := (fun k_ => some k_ ≠ (.slice (some ad423) t389.length co8 : Value).ownBlock)) (by (with_reducible repeat (first | apply Kd.N_alloc | apply Kd.N_drewN | apply Kd.N_drew)); exact HO_5.out) hg hat); have n2_ := Aside0.mk (Kd.V_afterv (ok := (fun k_ => some k_ ≠ (.slice (some ad423) t389.length co8 : Value).ownBlock)) (by (with_reducible repeat (first | apply Kd.V_alloc | apply Kd.V_drewN | apply Kd.V_drew)); exact HO419.out) hg hat); have n3_ := Aside0.mk (Kd.V_afterv (ok := (fun k_ => some k_ ≠ (.slice (some ad423) t389.length co8 : Value).ownBlock ∧ some k_ ≠ (.slice Ao9 x5_1.length co9 : Value).ownBlock)) (by (with_reducible repeat (first | apply Kd.V_alloc | apply Kd.V_drewN | apply Kd.V_drew)); exact Kd.V_mono HL423_1.out (fun _ hk => by first | exact ⟨⟨hk.2, hk.1.1⟩, hk.1.2⟩ | grind)) hg hat); have n4_ := Aside0.mk (hb); have n5_ := Aside0.mk (ho); clear HO_4; clear HO_5; clear HO419; clear HL423_1; clear HB; clear HO422; have HO_4 := n0_; have HO_5 := n1_; have HO419 := n2_; have HL423_1 := n3_; have HB := n4_; have HO426 := n5_; clear n0_ n1_ n2_ n3_ n4_ n5_; clear ho hb hg hat; have q47 : (x7_2 : Int) ≤ ((x5_1.length : Int) : Int) := od; obtain ⟨i047, hi047, _, hsz47, _⟩ := info_parts info25; have hroom47 : x5_1.length ≤ co9 := (Kd.N_reads' HO_5.out).2.1; have hC47 : Kd.F k25 _ _ Ao9 x5_1.length x5_1 := (Kd.V_at (base := w.heap.size) (Kd.N_V HO_5.out)).2.2; have q047 : (0 : Int) ≤ (x7_2 : Int) := od; have hcut47 := cut_from (P := Tryd.prog) 43 25 .i64 Tryd.underlying43 hi047 3 hsz47 Ao9 x5_1.length co9 x7_2 q047 q47; have hr47 := Kd.F_cut (m := (x7_2 : Int).toNat) (c := co9) hC47 (by omega) hroom47; obtain ⟨A47, hA47⟩ : ∃ A1, A1 = (if co9 = (x7_2 : Int).toNat then Ao9 else (Ao9 : Option Addr).map (·.add ((x7_2 : Int).toNat * 3))) := ⟨_, rfl⟩; obtain ⟨c47, hc47⟩ : ∃ c1, c1 = co9 - (x7_2 : Int).toNat := ⟨_, rfl⟩; have hy47 : y427.length = x5_1.length - (x7_2 : Int).toNat := (by rw [Ny427.out, List.length_drop] <;> omega); rw [show (x5_1).drop (x7_2 : Int).toNat = y427 from Ny427.out.symm] at hr47; replace hr47 : Kd.F k25 _ _ A47 y427.length y427 := (by rw [hA47]; exact hr47); rw [← hy47, ← hA47, ← hc47] at hcut47; have HO431 := Aside0.mk (show Kd.V k25 25 _ w.heap.size _ (.slice A47 y427.length c47) y427 from Kd.V_mk (by rw [hy47, hc47]; exact Nat.sub_le_sub_right hroom47 _) hr47); have HC431 := Aside0.mk (show y427.length ≤ c47 from by rw [hy47, hc47]; exact Nat.sub_le_sub_right hroom47 _); clear hr47 hC47 hroom47 hi047 hsz47 hc47; have KY47 := Aside0.mk hy47; have KA47 := Aside0.mk hA47; clear hy47 hA47; replace q47 := eq_true q47) | ((with_reducible refine gate_builtin (b := .append) (xs := #[.tmp 53, .tmp 56]) rfl ?_); (try (refine gate_guard (by rfl) ?_; dsimp only)); at_builtin; refine Kd.N_append_rows k25 (w0 := w) w.heap.size rfl (.tmp 53) (.tmp 56) 43 25 (.agg #[(.int .i64 0), (.slice none 0 0), (.string ⟨#[]⟩)]) 48 rfl Tryd.underlying43 info25 rfl (by decide) (by omega) v425 y424 y427 _ _ _ (fun k_ => some k_ ≠ (.slice (some ad423) t389.length co8 : Value).ownBlock) (fun k_ => ((fun k_ => some k_ ≠ (.slice (some ad423) t389.length co8 : Value).ownBlock)) k_ ∧ some k_ ≠ (v425 : Value).ownBlock) rfl rfl ?aO ?aR (fun _ hk => hk) ?aF ?aB ?aS ?aL ?_; (case aR => exact (by skip; exact Kd.V_F (Kd.V_mono (ok' := (fun k_ => ((fun k_ => some k_ ≠ (.slice (some ad423) t389.length co8 : Value).ownBlock)) k_ ∧ some k_ ≠ (v425 : Value).ownBlock)) (HO431.out) (fun k_ hk => ⟨hk.1, hk.2⟩)))); (case aB => exact bl); (case aF => exact (fun k_ hk => Kd.fresh' (Kd.N_lt (by (with_reducible repeat (first | apply Kd.N_alloc | apply Kd.N_drewN | apply Kd.N_drew)); exact HO_4.out)) k_ hk)); (case aO => exact (by (with_reducible repeat (first | apply Kd.N_alloc | apply Kd.N_drewN | apply Kd.N_drew)); exact HO426.out)); (case aS => exact (below_size bl)); (case aL => have := LMc42.out; omega); intro v433 w48 ho hb hg hat; rw [← Ny432.out] at ho; have n0_ := Aside0.mk (Kd.N_afterv (ok := (fun k_ => some k_ ≠ (.slice Ao9 x5_1.length co9 : Value).ownBlock)) (by (with_reducible repeat (first | apply Kd.N_alloc | apply Kd.N_drewN | apply Kd.N_drew)); exact HO_4.out) hg hat); have n1_ := Aside0.mk (Kd.N_afterv (ok := (fun k_ => some k_ ≠ (.slice (some ad423) t389.length co8 : Value).ownBlock)) (by (with_reducible repeat (first | apply Kd.N_alloc | apply Kd.N_drewN | apply Kd.N_drew)); exact HO_5.out) hg hat); have n2_ := Aside0.mk (Kd.V_afterv (ok := (fun k_ => some k_ ≠ (.slice (some ad423) t389.length co8 : Value).ownBlock)) (by (with_reducible repeat (first | apply Kd.V_alloc | apply Kd.V_drewN | apply Kd.V_drew)); exact HO419.out) hg hat); have n3_ := Aside0.mk (Kd.V_afterv (ok := (fun k_ => some k_ ≠ (.slice (some ad423) t389.length co8 : Value).ownBlock ∧ some k_ ≠ (.slice Ao9 x5_1.length co9 : Value).ownBlock)) (by (with_reducible repeat (first | apply Kd.V_alloc | apply Kd.V_drewN | apply Kd.V_drew)); exact HL423_1.out) hg hat); have n4_ := Aside0.mk (Kd.V_afterv (ok := (fun k_ => some k_ ≠ (.slice (some ad423) t389.length co8 : Value).ownBlock)) (by (with_reducible repeat (first | apply Kd.V_alloc | apply Kd.V_drewN | apply Kd.V_drew)); exact HO431.out) hg hat); have n5_ := Aside0.mk (hb); have n6_ := Aside0.mk (ho); clear HO_4; clear HO_5; clear HO419; clear HL423_1; clear HO431; clear HB; clear HO426; have HO_4 := n0_; have HO_5 := n1_; have HO419 := n2_; have HL423_1 := n3_; have HO431 := n4_; have HB := n5_; have HO434 := n6_; clear n0_ n1_ n2_ n3_ n4_ n5_ n6_; clear ho hb hg hat))
               go_roundg k2
               case measure => have := HK1.out; have := HK2.out; omega
               case rel => exact ⟨(y432), (wrap64 (x6_1 + 1)), rs, H', ⟨by have := HK1.out; have := HK2.out; omega⟩, ⟨by (with_reducible repeat (first | apply Kd.N_alloc | apply Kd.N_drewN | apply Kd.N_drew)); exact Kd.N_mono HO_4.out (fun _ hk => hk.2)⟩, ⟨by (with_reducible repeat (first | apply Kd.N_alloc | apply Kd.N_drewN | apply Kd.N_drew)); exact HO434.out⟩, ⟨bl⟩⟩
              ·rw [if_neg c42] at H
               exact absurd H (by simp)
             ·rw [if_neg c39] at H
              exact absurd H (by simp)
            ·rw [if_neg c38] at H
             exact absurd H (by simp)
           ·rw [if_neg c37] at H
            exact absurd H (by simp)
          ·rw [if_neg c36] at H
           exact absurd H (by simp)
         ·rw [if_neg c35] at H
          exact absurd H (by simp)
        ·rw [if_neg c34] at H
         exact absurd H (by simp)
    ·rw [if_neg c7] at H
     have c7b0 : decide (x6_1 < (t389.length : Int)) = false := decide_eq_false c7
     clear c7
     have H' := Aside0.mk H
     clear H
     obtain ⟨Ao49, co49, eo49⟩ := Kd.N_slice HO_4.out
     subst eo49
     obtain ⟨Ao50, co50, eo50⟩ := Kd.N_slice HO_5.out
     subst eo50
     go_wp2
     go_loopg [9, 10] k1 (fun kq v9 v10 w' => ∃ (x9_2 : List (S25)) (x10_2 : Int), v10 = .int .i64 x10_2 ∧ Aside0 (archivistlaw13_EntrySorted.l2 kq true x5_1 x9_2 x10_2 = some r) ∧ Aside0 (kq ≤ k1) ∧ Aside0 (Kd.N k25 25 w' w.heap.size (fun k_ => some k_ ≠ (v9 : Value).ownBlock) (.slice Ao50 x5_1.length co50) x5_1) ∧ Aside0 (Kd.N k25 25 w' w.heap.size (fun k_ => some k_ ≠ ((.slice Ao50 x5_1.length co50) : Value).ownBlock) v9 x9_2) ∧ Aside0 (Below w.heap.size w w'))
     case atStart => exact ⟨(([] : List (S25))), (wrap64 ((x5_1.length : Int) - 1)), rs, H', ⟨Nat.le_refl _⟩, ⟨by (with_reducible repeat (first | apply Kd.N_alloc | apply Kd.N_drewN | apply Kd.N_drew)); exact Kd.N_mono HO_5.out (fun _ hk => (by simp [Value.ownBlock]))⟩, ⟨by first | exact Kd.S_nil _ _ _ _ _ | exact Kd.N_nil _ _ _ _ _ | exact Kd.V_nil _ _ _ _ _ | exact Kd.Q_nil _ _ _ _ _ | exact Kd.R_nil _ _ _ _ _⟩, ⟨bl⟩⟩
     case round =>
      clear H'
      try clear c1
      try clear c2
      try clear p2
      try clear q2
      try clear c3
      try clear p3
      try clear q3
      try clear hx3
      try clear c4
      try clear p4
      try clear q4
      try clear hx4
      try clear p6
      try clear c7
      try clear c7b0
      try clear c10
      try clear c10b0
      try clear c11
      try clear c12
      try clear c14
      try clear c15
      try clear c17
      try clear c20
      try clear c20b0
      try clear c20b1
      try clear c21
      try clear c21b0
      try clear c21b1
      try clear c22
      try clear c23
      try clear c24
      try clear c24b0
      try clear c25
      try clear c25b0
      try clear c26
      try clear q29
      try clear c32
      try clear q32
      try clear c34
      try clear c34b0
      try clear c34b1
      try clear c35
      try clear c35b0
      try clear c35b1
      try clear c36
      try clear c37
      try clear c37b0
      try clear c38
      try clear c38b0
      try clear c39
      try clear p39
      try clear q39
      try clear hx39
      try clear c40
      try clear c40b0
      try clear p40
      try clear q40
      try clear hx40
      try clear c41
      try clear c41b0
      try clear c42
      try clear p42
      try clear q42
      try clear hx42
      try clear q44
      try clear c47
      try clear q47
      try clear hx392_0
      try clear hx392_1
      try clear hx392_2
      try clear hx393_0
      try clear hx393_1
      try clear hx393_2
      try clear hx403_0
      try clear hx403_1
      try clear hx403_2
      try clear hx423_0
      try clear hx423_1
      try clear hx423_2
      try clear p392
      try clear p393
      try clear p403
      try clear p423
      try clear q032
      try clear q047
      try clear q29
      try clear q32
      try clear q392
      try clear q393
      try clear q403
      try clear q423
      try clear q44
      try clear q47
      obtain ⟨x9_2, x10_2, rfl, HA, HK2, HO_5, HO_9, HB⟩ := hrel
      cases gk with
      | zero => exact absurd HA.out (by simp [archivistlaw13_EntrySorted.l2])
      | succ k2 =>
       have H := HA.out
       clear HA
       simp only [archivistlaw13_EntrySorted.l2] at H
       by_cases c51 : x10_2 ≥ 0
       ·rw [if_pos c51] at H
        have c51b0 := decide_eq_true c51
        clear c51
        by_cases c52 : 0 ≤ x10_2
        ·rw [if_pos c52] at H
         have c52b0 := decide_eq_true c52
         clear c52
         by_cases c53 : x10_2 < (x5_1.length : Int)
         ·rw [if_pos c53] at H
          have c53b0 := decide_eq_true c53
          clear c53
          by_cases c54 : x9_2.length < 2932031007402
          ·rw [if_pos c54] at H
           have LMc54 := Aside0.mk c54
           clear c54
           obtain ⟨y436, hy436⟩ : ∃ y_ : List (S25), y_ = (x9_2 ++ [(⟨(rd_T25 x5_1 x10_2).f0, (rd_T25 x5_1 x10_2).f1, (rd_T25 x5_1 x10_2).f2⟩ : S25)]) := ⟨_, rfl⟩
           replace H : (archivistlaw13_EntrySorted.l2 k2 true x5_1 y436 (wrap64 (x10_2 - 1))) = some r := by first | (rw [hy436]; with_reducible exact H) | (have H2_ := (Option.bind_some _ _).symm.trans H; rw [hy436]; with_reducible exact H2_) | (have H2_ := (Option.bind_some _ _).symm.trans H; with_reducible exact H2_) | with_reducible exact H | (rw [hy436]; exact H) | exact H
           have Ny436 := Aside0.mk hy436
           clear hy436
           have H' := Aside0.mk H
           clear H
           have p435 : 0 ≤ (x10_2 : Int) := od
           have q435 : x10_2 < (x5_1.length : Int) := od
           obtain ⟨ad435, A435_1, c435_1, e435, hx435_0, hx435_1, hx435_2, hl435_1, hi435_1⟩ := at_T25 (Kd.N_reads' HO_5.out).2.2 x10_2 p435 q435
           cases e435
           obtain ⟨ce435, hce435, hMe435, hcc435⟩ := Kd.N_get HO_5.out z25 x10_2 p435 (by first | exact q435 | exact od | (have e_ := (Kd.N_reads' HO_5.out).1; omega))
           obtain ⟨ua435_1, uc435_1, rfl, ul435_1, ge435_1⟩ := k25_openF hMe435
           have hv435_1 := hcc435 1 _ rfl
           rw [add_field _ _ 1 (by omega)] at hv435_1
           replace hv435_1 := Option.some.inj (hv435_1.symm.trans hx435_1)
           injection hv435_1 with hva_ hvn_ hvc_
           rw [hva_] at ge435_1
           rw [hvc_] at ul435_1
           have HL435_1 := Aside0.mk (show Kd.V k48 48 _ w.heap.size _ _ ((rd_T25 x5_1 x10_2).f1) from Kd.V_mk ul435_1 ge435_1)
           clear hva_ hvn_ hvc_ ge435_1 ul435_1
           clear hcc435 hce435
           have HR435_1 := Aside0.mk hi435_1
           have HC435_1 := Aside0.mk hl435_1
           clear hi435_1 hl435_1
           replace p435 := eq_true p435
           replace q435 := eq_true q435
           go_wp2_with (first | ((with_reducible refine gate_builtin (b := .append) (xs := #[.tmp 65, .tmp 70]) rfl ?_); (try (refine gate_guard (by rfl) ?_; dsimp only)); at_builtin; refine Kd.N_append k25 (w0 := w) w.heap.size rfl (.tmp 65) (.tmp 70) 43 25 (.agg #[(.int .i64 0), (.slice none 0 0), (.string ⟨#[]⟩)]) 48 rfl Tryd.underlying43 info25 rfl (by decide) (by omega) u9 x9_2 (⟨(rd_T25 x5_1 x10_2).f0, (rd_T25 x5_1 x10_2).f1, (rd_T25 x5_1 x10_2).f2⟩ : S25) [.int .i64 ((rd_T25 x5_1 x10_2).f0), .slice A435_1 ((rd_T25 x5_1 x10_2).f1).length c435_1, .string ((rd_T25 x5_1 x10_2).f2)] (fun k_ => some k_ ≠ (.slice (some ad435) x5_1.length co50 : Value).ownBlock) (fun k_ => ((fun k_ => some k_ ≠ (.slice (some ad435) x5_1.length co50 : Value).ownBlock)) k_ ∧ some k_ ≠ (u9 : Value).ownBlock) rfl rfl ?aP (fun _ hk => hk) ?aF ?aO ?aB ?aS ?aL ?_; (case aP => exact (k25_mkF _ _ (⟨(rd_T25 x5_1 x10_2).f0, (rd_T25 x5_1 x10_2).f1, (rd_T25 x5_1 x10_2).f2⟩ : S25) (Kd.V_reads' (Kd.V_mono (ok' := (fun k_ => ((fun k_ => some k_ ≠ (.slice (some ad435) x5_1.length co50 : Value).ownBlock)) k_ ∧ some k_ ≠ (u9 : Value).ownBlock)) (HL435_1.out) (fun k_ hk => ⟨hk.2, hk.1⟩))).2.1 (Kd.V_F (Kd.V_mono (ok' := (fun k_ => ((fun k_ => some k_ ≠ (.slice (some ad435) x5_1.length co50 : Value).ownBlock)) k_ ∧ some k_ ≠ (u9 : Value).ownBlock)) (HL435_1.out) (fun k_ hk => ⟨hk.2, hk.1⟩))))); (case aB => exact bl); (case aF => exact (fun k_ hk => Kd.fresh' (Kd.N_lt (by (with_reducible repeat (first | apply Kd.N_alloc | apply Kd.N_drewN | apply Kd.N_drew)); exact HO_5.out)) k_ hk)); (case aO => exact (by (with_reducible repeat (first | apply Kd.N_alloc | apply Kd.N_drewN | apply Kd.N_drew)); exact HO_9.out)); (case aS => exact (below_size bl)); (case aL => have := LMc54.out; omega); intro v437 w55 ho hb hg hat; rw [← Ny436.out] at ho; have n0_ := Aside0.mk (Kd.N_afterv (ok := (fun _ => True)) (by (with_reducible repeat (first | apply Kd.N_alloc | apply Kd.N_drewN | apply Kd.N_drew)); exact Kd.N_mono HO_5.out (fun _ hk => ⟨trivial, hk⟩)) hg hat); have n1_ := Aside0.mk (Kd.V_afterv (ok := (fun k_ => some k_ ≠ (.slice (some ad435) x5_1.length co50 : Value).ownBlock)) (by (with_reducible repeat (first | apply Kd.V_alloc | apply Kd.V_drewN | apply Kd.V_drew)); exact Kd.V_mono HL435_1.out (fun _ hk => by first | exact ⟨hk.2, hk.1⟩ | grind)) hg hat); have n2_ := Aside0.mk (hb); have n3_ := Aside0.mk (ho); clear HO_5; clear HL435_1; clear HB; clear HO_9; have HO_5 := n0_; have HL435_1 := n1_; have HB := n2_; have HO438 := n3_; clear n0_ n1_ n2_ n3_; clear ho hb hg hat))
           go_roundg k2
           case measure => have := HK1.out; have := HK2.out; omega
           case rel => exact ⟨(y436), (wrap64 (x10_2 - 1)), rs, H', ⟨by have := HK1.out; have := HK2.out; omega⟩, ⟨by (with_reducible repeat (first | apply Kd.N_alloc | apply Kd.N_drewN | apply Kd.N_drew)); exact Kd.N_mono HO_5.out (fun _ hk => hk.2)⟩, ⟨by (with_reducible repeat (first | apply Kd.N_alloc | apply Kd.N_drewN | apply Kd.N_drew)); exact HO438.out⟩, ⟨bl⟩⟩
          ·rw [if_neg c54] at H
           exact absurd H (by simp)
         ·rw [if_neg c53] at H
          exact absurd H (by simp)
        ·rw [if_neg c52] at H
         exact absurd H (by simp)
       ·rw [if_neg c51] at H
        have c51b0 : decide (0 ≤ x10_2) = false := decide_eq_false c51
        clear c51
        by_cases c56 : (x5_1.length : Int) = 0
        ·rw [if_pos c56] at H
         have c56b0 : ((x5_1.length : Int) == 0) = true := beq_iff_eq.mpr c56
         have c56b1 : ((x5_1.length : Int) != 0) = false := bne_eq_false_iff_eq.mpr c56
         clear c56
         by_cases c57 : true = true
         ·clear c57
          have H1 : ((entry_Sorted.f k2 true x5_1).bind fun t439 => (if t439 = true then ((entry_Sorted.f k2 false x9_2).bind fun t440 => (if t440 = true then ((entry_Sorted.f k2 false x5_1).bind fun t441 => (some (t441 == true))) else (none))) else (none))) = some r := by first | (rw [if_pos rfl] at H; exact H) | (rw [if_pos trivial] at H; exact H)
          clear H
          have H := H1
          clear H1
          replace H := Option.bind_eq_some_iff.mp H
          obtain ⟨t439, A580, H⟩ := H
          replace H : (if t439 = true then ((entry_Sorted.f k2 false x9_2).bind fun t440 => (if t440 = true then ((entry_Sorted.f k2 false x5_1).bind fun t441 => (some (t441 == true))) else (none))) else (none)) = some r := H
          have A58 := Aside0.mk A580
          clear A580
          by_cases c59 : t439 = true
          ·subst c59
           have H1 : ((entry_Sorted.f k2 false x9_2).bind fun t440 => (if t440 = true then ((entry_Sorted.f k2 false x5_1).bind fun t441 => (some (t441 == true))) else (none))) = some r := by first | (rw [if_pos rfl] at H; exact H) | (rw [if_pos trivial] at H; exact H)
           clear H
           have H := H1
           clear H1
           replace H := Option.bind_eq_some_iff.mp H
           obtain ⟨t440, A600, H⟩ := H
           replace H : (if t440 = true then ((entry_Sorted.f k2 false x5_1).bind fun t441 => (some (t441 == true))) else (none)) = some r := H
           have A60 := Aside0.mk A600
           clear A600
           by_cases c61 : t440 = true
           ·subst c61
            have H1 : ((entry_Sorted.f k2 false x5_1).bind fun t441 => (some (t441 == true))) = some r := by first | (rw [if_pos rfl] at H; exact H) | (rw [if_pos trivial] at H; exact H)
            clear H
            have H := H1
            clear H1
            replace H := Option.bind_eq_some_iff.mp H
            obtain ⟨t441, A620, H⟩ := H
            replace H : (some (t441 == true)) = some r := H
            have A62 := Aside0.mk A620
            clear A620
            obtain rfl := Option.some.inj H
            try go_wp2
            have n0_ := Aside0.mk (Kd.N_drew HO_5.out)
            have n1_ := Aside0.mk (Kd.N_drew HO_9.out)
            have n2_ := Aside0.mk (below_drew1 HB.out)
            clear HO_5
            clear HO_9
            clear HB
            have HO_5 := n0_
            have HO_9 := n1_
            have HB := n2_
            clear n0_ n1_ n2_
            refine start_ (n := 16) (S := fun w' => True) (ds := []) #[N_,N_,N_,N_,N_,N_,N_,N_,N_,N_,N_,N_,N_,N_,N_,N_] (by kernel_rfl) rfl rfl trivial (fun hHeld => ?_); refine with_tabW archivistlaw13_EntrySorted.tab21 archivistlaw13_EntrySorted.bits21 (fun HT_ HW_ => ?_)
            generalize wr.drew = w63 at HO_5 HO_9 HB hHeld ⊢
            refine pY 0 72 #[J_,N_,N_,N_,N_,N_,N_,N_,N_,N_,N_,N_,N_,N_,N_,N_] HT_.out ?_
            refine pY 1 73 #[J_,J_,N_,N_,N_,N_,N_,N_,N_,N_,N_,N_,N_,N_,N_,N_] HT_.out ?_
            refine pY 2 74 #[J_,J_,J_,N_,N_,N_,N_,N_,N_,N_,N_,N_,N_,N_,N_,N_] HT_.out ?_
            refine pY 3 75 #[J_,J_,J_,J_,N_,N_,N_,N_,N_,N_,N_,N_,N_,N_,N_,N_] HT_.out ?_
            refine pU 4 76 #[J_,J_,J_,J_,J_,N_,N_,N_,N_,N_,N_,N_,N_,N_,N_,N_] HT_.out ?_
            refine pU 5 77 #[J_,J_,J_,J_,J_,J_,N_,N_,N_,N_,N_,N_,N_,N_,N_,N_] HT_.out ?_
            refine pU 6 78 #[J_,J_,J_,J_,J_,J_,J_,N_,N_,N_,N_,N_,N_,N_,N_,N_] HT_.out ?_
            refine pU 7 79 #[J_,J_,J_,J_,J_,J_,J_,J_,N_,N_,N_,N_,N_,N_,N_,N_] HT_.out ?_
            refine pU 8 80 #[J_,J_,J_,J_,J_,J_,J_,J_,J_,N_,N_,N_,N_,N_,N_,N_] HT_.out ?_
            refine pU 9 81 #[J_,J_,J_,J_,J_,J_,J_,J_,J_,J_,N_,N_,N_,N_,N_,N_] HT_.out ?_
            refine pU 10 82 #[J_,J_,J_,J_,J_,J_,J_,J_,J_,J_,J_,N_,N_,N_,N_,N_] HT_.out ?_
            refine pU 11 83 #[J_,J_,J_,J_,J_,J_,J_,J_,J_,J_,J_,J_,N_,N_,N_,N_] HT_.out ?_
            refine pU 12 84 #[J_,J_,J_,J_,J_,J_,J_,J_,J_,J_,J_,J_,J_,N_,N_,N_] HT_.out ?_
            refine pU 13 85 #[J_,J_,J_,J_,J_,J_,J_,J_,J_,J_,J_,J_,J_,J_,N_,N_] HT_.out ?_
            refine pY 14 86 #[J_,J_,J_,J_,J_,J_,J_,J_,J_,J_,J_,J_,J_,J_,J_,N_] HT_.out ?_
            refine pY 15 11 #[J_,J_,J_,J_,J_,J_,J_,J_,J_,J_,J_,J_,J_,J_,J_,J_] HT_.out ?_
            refine done_ (done_of HT_.out (by kernel_rfl)) ?_
            try go_wp2_with (first | (go_at_call 16; (with_reducible refine (entry_Sorted.calls k2 true _ _ x5_1 true _ ?side1 ?side2 A58.out).mono ?_); (case side1 => repeat (first | exact (Kd.N_reads' HO_5.out).2.2 | (with_reducible refine Kd.C_alloc ?_ _) | (with_reducible refine Kd.C_drewN ?_ _) | (with_reducible refine Kd.C_drew ?_))); (case side2 => exact (Kd.N_reads' HO_5.out).2.1); rintro e w64 ⟨rfl, hb⟩; have n0_ := Aside0.mk (Kd.N_below (by (with_reducible repeat (first | apply Kd.N_alloc | apply Kd.N_drewN | apply Kd.N_drew)); exact HO_5.out) hb); have n1_ := Aside0.mk (Kd.N_below (by (with_reducible repeat (first | apply Kd.N_alloc | apply Kd.N_drewN | apply Kd.N_drew)); exact HO_9.out) hb); have n2_ := Aside0.mk (below_step bl hb); clear HO_5; clear HO_9; clear HB; have HO_5 := n0_; have HO_9 := n1_; have HB := n2_; clear n0_ n1_ n2_; (try clear hb); (try clear hb2); (try clear hk); (try clear hi); obtain ⟨Ao65, co65, eo65⟩ := Kd.N_slice HO_9.out; subst eo65) | (go_at_call 16; (with_reducible refine (entry_Sorted.calls k2 false _ _ x9_2 true _ ?side1 ?side2 A60.out).mono ?_); (case side1 => repeat (first | exact (Kd.N_reads' HO_9.out).2.2 | (with_reducible refine Kd.C_alloc ?_ _) | (with_reducible refine Kd.C_drewN ?_ _) | (with_reducible refine Kd.C_drew ?_))); (case side2 => exact (Kd.N_reads' HO_9.out).2.1); rintro e w66 ⟨rfl, hb⟩; have n0_ := Aside0.mk (Kd.N_below (by (with_reducible repeat (first | apply Kd.N_alloc | apply Kd.N_drewN | apply Kd.N_drew)); exact HO_5.out) hb); have n1_ := Aside0.mk (Kd.N_below (by (with_reducible repeat (first | apply Kd.N_alloc | apply Kd.N_drewN | apply Kd.N_drew)); exact HO_9.out) hb); have n2_ := Aside0.mk (below_step bl hb); clear HO_5; clear HO_9; clear HB; have HO_5 := n0_; have HO_9 := n1_; have HB := n2_; clear n0_ n1_ n2_; (try clear hb); (try clear hb2); (try clear hk); (try clear hi)) | (go_at_call 16; (with_reducible refine (entry_Sorted.calls k2 false _ _ x5_1 t441 _ ?side1 ?side2 A62.out).mono ?_); (case side1 => repeat (first | exact (Kd.N_reads' HO_5.out).2.2 | (with_reducible refine Kd.C_alloc ?_ _) | (with_reducible refine Kd.C_drewN ?_ _) | (with_reducible refine Kd.C_drew ?_))); (case side2 => exact (Kd.N_reads' HO_5.out).2.1); rintro e w67 ⟨rfl, hb⟩; have n0_ := Aside0.mk (Kd.N_below (by (with_reducible repeat (first | apply Kd.N_alloc | apply Kd.N_drewN | apply Kd.N_drew)); exact HO_5.out) hb); have n1_ := Aside0.mk (Kd.N_below (by (with_reducible repeat (first | apply Kd.N_alloc | apply Kd.N_drewN | apply Kd.N_drew)); exact HO_9.out) hb); have n2_ := Aside0.mk (below_step bl hb); clear HO_5; clear HO_9; clear HB; have HO_5 := n0_; have HO_9 := n1_; have HB := n2_; clear n0_ n1_ n2_; (try clear hb); (try clear hb2); (try clear hk); (try clear hi)))
            go_ret
            exact ⟨by first | rfl | (simp [errW_none, errW_some] <;> rfl) | (simp [*, errW_none, errW_some] <;> rfl), bl⟩
           ·replace c61 := Bool.eq_false_iff.mpr c61
            subst c61
            have H1 : (none) = some r := by rw [if_neg (show ¬ (false = true) by decide)] at H; exact H
            clear H
            have H := H1
            clear H1
            exact absurd H (by simp)
          ·replace c59 := Bool.eq_false_iff.mpr c59
           subst c59
           have H1 : (none) = some r := by rw [if_neg (show ¬ (false = true) by decide)] at H; exact H
           clear H
           have H := H1
           clear H1
           exact absurd H (by simp)
         ·exact absurd rfl c57
        ·rw [if_neg c56] at H
         have c56b0 : ((x5_1.length : Int) == 0) = false := beq_eq_false_iff_ne.mpr c56
         have c56b1 : ((x5_1.length : Int) != 0) = true := bne_iff_ne.mpr c56
         have c56b2 : ¬ (x5_1 = []) := fun h_ => c56 (by rw [h_]; rfl)
         by_cases c68 : 0 < (x5_1.length : Int)
         ·rw [if_pos c68] at H
          have c68b0 := decide_eq_true c68
          have c68b1 : decide (0 < x5_1.length) = true := decide_eq_true (by omega)
          clear c68
          obtain ⟨ji69, hji69⟩ : ∃ j_ : Int, (wrap64 ((x5_1.length : Int) - 1)) = j_ := ⟨_, rfl⟩
          replace H : (if 0 ≤ (ji69) then (if (ji69) < (x5_1.length : Int) then ((entry_Same.f k2 ((rd_T25 x5_1 0).f0) ((rd_T25 x5_1 0).f1) ((rd_T25 x5_1 0).f2) ((rd_T25 x5_1 (ji69)).f0) ((rd_T25 x5_1 (ji69)).f1) ((rd_T25 x5_1 (ji69)).f2)).bind fun t444 => (if true = true then ((entry_Sorted.f k2 true x5_1).bind fun t445 => (if t445 = true then ((entry_Sorted.f k2 false x9_2).bind fun t446 => (if t446 = true then ((entry_Sorted.f k2 false x5_1).bind fun t447 => (some (t447 == t444))) else (none))) else (none))) else (none))) else (none)) else (none)) = some r := by first | (rw [hji69] at H; exact H) | (simp only [hji69] at H ⊢; exact H)
          have hji69w : (IntKind.i64.wrap ((x5_1.length : Int) - 1)) = ji69 := (i64_w _).trans hji69
          by_cases c70 : 0 ≤ (ji69)
          ·rw [if_pos c70] at H
           have c70b0 := decide_eq_true c70
           clear c70
           by_cases c71 : (ji69) < (x5_1.length : Int)
           ·rw [if_pos c71] at H
            have c71b0 := decide_eq_true c71
            clear c71
            replace H := Option.bind_eq_some_iff.mp H
            obtain ⟨t444, A720, H⟩ := H
            replace H : (if true = true then ((entry_Sorted.f k2 true x5_1).bind fun t445 => (if t445 = true then ((entry_Sorted.f k2 false x9_2).bind fun t446 => (if t446 = true then ((entry_Sorted.f k2 false x5_1).bind fun t447 => (some (t447 == t444))) else (none))) else (none))) else (none)) = some r := H
            have A72 := Aside0.mk A720
            clear A720
            by_cases c73 : true = true
            ·clear c73
             have H1 : ((entry_Sorted.f k2 true x5_1).bind fun t445 => (if t445 = true then ((entry_Sorted.f k2 false x9_2).bind fun t446 => (if t446 = true then ((entry_Sorted.f k2 false x5_1).bind fun t447 => (some (t447 == t444))) else (none))) else (none))) = some r := by first | (rw [if_pos rfl] at H; exact H) | (rw [if_pos trivial] at H; exact H)
             clear H
             have H := H1
             clear H1
             replace H := Option.bind_eq_some_iff.mp H
             obtain ⟨t445, A740, H⟩ := H
             replace H : (if t445 = true then ((entry_Sorted.f k2 false x9_2).bind fun t446 => (if t446 = true then ((entry_Sorted.f k2 false x5_1).bind fun t447 => (some (t447 == t444))) else (none))) else (none)) = some r := H
             have A74 := Aside0.mk A740
             clear A740
             by_cases c75 : t445 = true
             ·subst c75
              have H1 : ((entry_Sorted.f k2 false x9_2).bind fun t446 => (if t446 = true then ((entry_Sorted.f k2 false x5_1).bind fun t447 => (some (t447 == t444))) else (none))) = some r := by first | (rw [if_pos rfl] at H; exact H) | (rw [if_pos trivial] at H; exact H)
              clear H
              have H := H1
              clear H1
              replace H := Option.bind_eq_some_iff.mp H
              obtain ⟨t446, A760, H⟩ := H
              replace H : (if t446 = true then ((entry_Sorted.f k2 false x5_1).bind fun t447 => (some (t447 == t444))) else (none)) = some r := H
              have A76 := Aside0.mk A760
              clear A760
              by_cases c77 : t446 = true
              ·subst c77
               have H1 : ((entry_Sorted.f k2 false x5_1).bind fun t447 => (some (t447 == t444))) = some r := by first | (rw [if_pos rfl] at H; exact H) | (rw [if_pos trivial] at H; exact H)
               clear H
               have H := H1
               clear H1
               replace H := Option.bind_eq_some_iff.mp H
               obtain ⟨t447, A780, H⟩ := H
               replace H : (some (t447 == t444)) = some r := H
               have A78 := Aside0.mk A780
               clear A780
               obtain rfl := Option.some.inj H
               try go_wp2
               have n0_ := Aside0.mk (Kd.N_drew HO_5.out)
               have n1_ := Aside0.mk (Kd.N_drew HO_9.out)
               have n2_ := Aside0.mk (below_drew1 HB.out)
               clear HO_5
               clear HO_9
               clear HB
               have HO_5 := n0_
               have HO_9 := n1_
               have HB := n2_
               clear n0_ n1_ n2_
               have p442 : 0 ≤ (0 : Int) := (by omega)
               have q442 : 0 < (x5_1.length : Int) := od
               obtain ⟨ad442, A442_1, c442_1, e442, hx442_0, hx442_1, hx442_2, hl442_1, hi442_1⟩ := at_T25 (Kd.N_reads' HO_5.out).2.2 0 p442 q442
               cases e442
               obtain ⟨ce442, hce442, hMe442, hcc442⟩ := Kd.N_get HO_5.out z25 0 p442 (by first | exact q442 | exact od | (have e_ := (Kd.N_reads' HO_5.out).1; omega))
               obtain ⟨ua442_1, uc442_1, rfl, ul442_1, ge442_1⟩ := k25_openF hMe442
               have hv442_1 := hcc442 1 _ rfl
               rw [add_field _ _ 1 (by omega)] at hv442_1
               replace hv442_1 := Option.some.inj (hv442_1.symm.trans hx442_1)
               injection hv442_1 with hva_ hvn_ hvc_
               rw [hva_] at ge442_1
               rw [hvc_] at ul442_1
               have HL442_1 := Aside0.mk (show Kd.V k48 48 _ w.heap.size _ _ ((rd_T25 x5_1 0).f1) from Kd.V_mk ul442_1 ge442_1)
               clear hva_ hvn_ hvc_ ge442_1 ul442_1
               clear hcc442 hce442
               have qi442 : (0 < x5_1.length) = True := eq_true (by omega)
               (try rw [show ((0 : Int)).toNat = 0 from rfl] at hx442_0)
               (try rw [show 0 * 3 = 0 from rfl] at hx442_0)
               (try rw [Addr.add_zero'] at hx442_0)
               (try rw [show ((0 : Int)).toNat = 0 from rfl] at hx442_1)
               (try rw [show 0 * 3 = 0 from rfl] at hx442_1)
               (try rw [Addr.add_zero'] at hx442_1)
               (try rw [show ((0 : Int)).toNat = 0 from rfl] at hx442_2)
               (try rw [show 0 * 3 = 0 from rfl] at hx442_2)
               (try rw [Addr.add_zero'] at hx442_2)
               have HR442_1 := Aside0.mk hi442_1
               have HC442_1 := Aside0.mk hl442_1
               clear hi442_1 hl442_1
               replace p442 := eq_true p442
               replace q442 := eq_true q442
               have p443 : 0 ≤ ((ji69) : Int) := od
               have q443 : (ji69) < (x5_1.length : Int) := od
               obtain ⟨ad443, A443_1, c443_1, e443, hx443_0, hx443_1, hx443_2, hl443_1, hi443_1⟩ := at_T25 (Kd.N_reads' HO_5.out).2.2 (ji69) p443 q443
               obtain rfl : ad442 = ad443 := (by injection e443)
               obtain ⟨ce443, hce443, hMe443, hcc443⟩ := Kd.N_get HO_5.out z25 (ji69) p443 (by first | exact q443 | exact od | (have e_ := (Kd.N_reads' HO_5.out).1; omega))
               obtain ⟨ua443_1, uc443_1, rfl, ul443_1, ge443_1⟩ := k25_openF hMe443
               have hv443_1 := hcc443 1 _ rfl
               rw [add_field _ _ 1 (by omega)] at hv443_1
               replace hv443_1 := Option.some.inj (hv443_1.symm.trans hx443_1)
               injection hv443_1 with hva_ hvn_ hvc_
               rw [hva_] at ge443_1
               rw [hvc_] at ul443_1
               have HL443_1 := Aside0.mk (show Kd.V k48 48 _ w.heap.size _ _ ((rd_T25 x5_1 (ji69)).f1) from Kd.V_mk ul443_1 ge443_1)
               clear hva_ hvn_ hvc_ ge443_1 ul443_1
               clear hcc443 hce443
               have HR443_1 := Aside0.mk hi443_1
               have HC443_1 := Aside0.mk hl443_1
               clear hi443_1 hl443_1
               replace p443 := eq_true p443
               replace q443 := eq_true q443
               refine start_ (n := 16) (S := fun w' => w'.cell? ad442 = some (.int .i64 ((rd_T25 x5_1 0).f0)) ∧ w'.cell? ⟨ad442.block, ad442.off + 1, none⟩ = some (.slice A442_1 ((rd_T25 x5_1 0).f1).length c442_1) ∧ w'.cell? ⟨ad442.block, ad442.off + 2, none⟩ = some (.string ((rd_T25 x5_1 0).f2)) ∧ w'.cell? (ad442.add (((ji69)).toNat * 3)) = some (.int .i64 ((rd_T25 x5_1 (ji69)).f0)) ∧ w'.cell? ⟨(ad442.add (((ji69)).toNat * 3)).block, (ad442.add (((ji69)).toNat * 3)).off + 1, none⟩ = some (.slice A443_1 ((rd_T25 x5_1 (ji69)).f1).length c443_1) ∧ w'.cell? ⟨(ad442.add (((ji69)).toNat * 3)).block, (ad442.add (((ji69)).toNat * 3)).off + 2, none⟩ = some (.string ((rd_T25 x5_1 (ji69)).f2))) (ds := []) #[N_,N_,N_,N_,N_,N_,N_,N_,N_,N_,N_,N_,N_,N_,N_,N_] (by kernel_rfl) rfl rfl ⟨hx442_0, hx442_1, hx442_2, hx443_0, hx443_1, hx443_2⟩ (fun hHeld => ?_); refine with_tabW archivistlaw13_EntrySorted.tab21 archivistlaw13_EntrySorted.bits21 (fun HT_ HW_ => ?_)
               generalize wr.drew = w79 at HO_5 HO_9 HB HL442_1 HL443_1 HR442_1 HR443_1 hx442_0 hx442_1 hx442_2 hx443_0 hx443_1 hx443_2 hHeld ⊢
               refine pY 0 72 #[J_,N_,N_,N_,N_,N_,N_,N_,N_,N_,N_,N_,N_,N_,N_,N_] HT_.out ?_
               refine pY 1 73 #[J_,J_,N_,N_,N_,N_,N_,N_,N_,N_,N_,N_,N_,N_,N_,N_] HT_.out ?_
               refine pY 2 74 #[J_,J_,J_,N_,N_,N_,N_,N_,N_,N_,N_,N_,N_,N_,N_,N_] HT_.out ?_
               refine pY 3 75 #[J_,J_,J_,J_,N_,N_,N_,N_,N_,N_,N_,N_,N_,N_,N_,N_] HT_.out ?_
               refine pY 4 76 #[J_,J_,J_,J_,J_,N_,N_,N_,N_,N_,N_,N_,N_,N_,N_,N_] HT_.out ?_
               refine pY 5 77 #[J_,J_,J_,J_,J_,J_,N_,N_,N_,N_,N_,N_,N_,N_,N_,N_] HT_.out ?_
               refine pY 7 79 #[J_,J_,J_,J_,J_,J_,N_,J_,N_,N_,N_,N_,N_,N_,N_,N_] HT_.out ?_
               refine pY 8 80 #[J_,J_,J_,J_,J_,J_,N_,J_,J_,N_,N_,N_,N_,N_,N_,N_] HT_.out ?_
               refine pY 9 81 #[J_,J_,J_,J_,J_,J_,N_,J_,J_,J_,N_,N_,N_,N_,N_,N_] HT_.out ?_
               refine pY 10 82 #[J_,J_,J_,J_,J_,J_,N_,J_,J_,J_,J_,N_,N_,N_,N_,N_] HT_.out ?_
               refine pY 11 83 #[J_,J_,J_,J_,J_,J_,N_,J_,J_,J_,J_,J_,N_,N_,N_,N_] HT_.out ?_
               refine take_ (i := 6) (N := some 78) (v := ?_) (a' := ?_) #[J_,J_,J_,J_,J_,J_,J_,J_,J_,J_,J_,J_,N_,N_,N_,N_] rfl rfl (take_ofW HT_.out HW_.out (by kernel_rfl)) (fun _ _ _ h => h) (Or.inl ⟨by rfl, ?_⟩) hHeld ?_ ?_
               rotate_left
               ·rintro w' ⟨s0, s1, s2, s3, s4, s5⟩
                go_simp
                with_reducible rfl
               rotate_left
               ·simp only [Act.put, List.setIfInBounds_toArray, List.set_cons_zero, List.set_cons_succ, i64_w, i32_w]
                rfl
               refine take_ (i := 12) (N := some 84) (v := ?_) (a' := ?_) #[J_,J_,J_,J_,J_,J_,J_,J_,J_,J_,J_,J_,J_,N_,N_,N_] rfl rfl (take_ofW HT_.out HW_.out (by kernel_rfl)) (fun _ _ _ h => h) (Or.inl ⟨by rfl, ?_⟩) hHeld ?_ ?_
               rotate_left
               ·rintro w' ⟨s0, s1, s2, s3, s4, s5⟩
                go_simp
                with_reducible rfl
               rotate_left
               ·simp only [Act.put, List.setIfInBounds_toArray, List.set_cons_zero, List.set_cons_succ, i64_w, i32_w]
                rfl
               refine one_ (i := 13) (N := some 85) #[J_,J_,J_,J_,J_,J_,J_,J_,J_,J_,J_,J_,J_,J_,N_,N_] rfl rfl (one_of HT_.out (by kernel_rfl)) (by decide) (fun K hK => ?_)
               refine goes_ Tryd.func12 (by kernel_rfl) rfl #[.agg #[.int .i64 ((rd_T25 x5_1 0).f0), .slice A442_1 ((rd_T25 x5_1 0).f1).length c442_1, .string ((rd_T25 x5_1 0).f2)], .agg #[.int .i64 ((rd_T25 x5_1 (ji69)).f0), .slice A443_1 ((rd_T25 x5_1 (ji69)).f1).length c443_1, .string ((rd_T25 x5_1 (ji69)).f2)]] (by rfl) rfl rfl (by (try simp only [List.map_toArray, List.map_cons, List.map_nil]); first | done | (simp only [hji69]; rfl) | rfl | (simp only [List.length_drop, List.length_take]; rfl)) ?_
               with_reducible refine (entry_Same.calls k2 ((rd_T25 x5_1 0).f0) _ _ ((rd_T25 x5_1 0).f1) ((rd_T25 x5_1 0).f2) ((rd_T25 x5_1 (ji69)).f0) _ _ ((rd_T25 x5_1 (ji69)).f1) ((rd_T25 x5_1 (ji69)).f2) t444 _ ?side1 ?side2 ?side3 ?side4 A72.out).mono ?_
               (case side1 => repeat (first | exact (by repeat (first | (with_reducible exact HR442_1.out) | (with_reducible refine Kd.C_alloc ?_ _) | (with_reducible refine Kd.C_drewN ?_ _) | (with_reducible refine Kd.C_drew ?_) | exact HR442_1.out)) | (with_reducible refine Kd.C_alloc ?_ _) | (with_reducible refine Kd.C_drewN ?_ _) | (with_reducible refine Kd.C_drew ?_)))
               (case side2 => exact HC442_1.out)
               (case side3 => repeat (first | exact (by repeat (first | (with_reducible exact HR443_1.out) | (with_reducible refine Kd.C_alloc ?_ _) | (with_reducible refine Kd.C_drewN ?_ _) | (with_reducible refine Kd.C_drew ?_) | exact HR443_1.out)) | (with_reducible refine Kd.C_alloc ?_ _) | (with_reducible refine Kd.C_drewN ?_ _) | (with_reducible refine Kd.C_drew ?_)))
               (case side4 => exact HC443_1.out)
               rintro e w80 ⟨rfl, hb⟩
               have HS0_ := (hb.cell (World.block_lt_of_cell? _ _ (hHeld.1))).trans (hHeld.1)
               have HS1_ := (hb.cell (World.block_lt_of_cell? _ _ (hHeld.2.1))).trans (hHeld.2.1)
               have HS2_ := (hb.cell (World.block_lt_of_cell? _ _ (hHeld.2.2.1))).trans (hHeld.2.2.1)
               have HS3_ := (hb.cell (World.block_lt_of_cell? _ _ (hHeld.2.2.2.1))).trans (hHeld.2.2.2.1)
               have HS4_ := (hb.cell (World.block_lt_of_cell? _ _ (hHeld.2.2.2.2.1))).trans (hHeld.2.2.2.2.1)
               have HS5_ := (hb.cell (World.block_lt_of_cell? _ _ (hHeld.2.2.2.2.2))).trans (hHeld.2.2.2.2.2)
               refine ⟨_, rfl, ?_⟩
               have n0_ := Aside0.mk (Kd.N_below (by (with_reducible repeat (first | apply Kd.N_alloc | apply Kd.N_drewN | apply Kd.N_drew)); exact HO_5.out) hb)
               have n1_ := Aside0.mk (Kd.N_below (by (with_reducible repeat (first | apply Kd.N_alloc | apply Kd.N_drewN | apply Kd.N_drew)); exact HO_9.out) hb)
               have n2_ := Aside0.mk (Kd.V_below (by (with_reducible repeat (first | apply Kd.V_alloc | apply Kd.V_drewN | apply Kd.V_drew)); exact HL442_1.out) hb)
               have n3_ := Aside0.mk (Kd.V_below (by (with_reducible repeat (first | apply Kd.V_alloc | apply Kd.V_drewN | apply Kd.V_drew)); exact HL443_1.out) hb)
               have n4_ := Aside0.mk (Kd.C_below (by repeat (first | (with_reducible exact HR442_1.out) | (with_reducible refine Kd.C_alloc ?_ _) | (with_reducible refine Kd.C_drewN ?_ _) | (with_reducible refine Kd.C_drew ?_) | exact HR442_1.out)) hb)
               have n5_ := Aside0.mk (Kd.C_below (by repeat (first | (with_reducible exact HR443_1.out) | (with_reducible refine Kd.C_alloc ?_ _) | (with_reducible refine Kd.C_drewN ?_ _) | (with_reducible refine Kd.C_drew ?_) | exact HR443_1.out)) hb)
               have n6_ := Aside0.mk (below_step bl hb)
               clear HO_5
               clear HO_9
               clear HL442_1
               clear HL443_1
               clear HR442_1
               clear HR443_1
               clear HB
               have HO_5 := n0_
               have HO_9 := n1_
               have HL442_1 := n2_
               have HL443_1 := n3_
               have HR442_1 := n4_
               have HR443_1 := n5_
               have HB := n6_
               clear n0_ n1_ n2_ n3_ n4_ n5_ n6_
               (try clear hb)
               (try clear hb2)
               (try clear hk)
               (try clear hi)
               refine hK.out _ _ ⟨HS0_, HS1_, HS2_, HS3_, HS4_, HS5_⟩ (fun hHeld => ?_)
               clear hK K
               refine norm_ (a' := ?_) ?_ ?_
               rotate_left
               ·show Act.put _ (some 85) _ = _
                simp only [Act.put, List.setIfInBounds_toArray, List.set_cons_zero, List.set_cons_succ, i64_w, i32_w]
                rfl
               refine pY 14 86 #[J_,J_,J_,J_,J_,J_,J_,J_,J_,J_,J_,J_,J_,J_,J_,N_] HT_.out ?_
               refine pY 15 11 #[J_,J_,J_,J_,J_,J_,J_,J_,J_,J_,J_,J_,J_,J_,J_,J_] HT_.out ?_
               refine done_ (done_of HT_.out (by kernel_rfl)) ?_
               try go_wp2_with (first | (go_at_call 16; (with_reducible refine (entry_Sorted.calls k2 true _ _ x5_1 true _ ?side1 ?side2 A74.out).mono ?_); (case side1 => repeat (first | exact (Kd.N_reads' HO_5.out).2.2 | (with_reducible refine Kd.C_alloc ?_ _) | (with_reducible refine Kd.C_drewN ?_ _) | (with_reducible refine Kd.C_drew ?_))); (case side2 => exact (Kd.N_reads' HO_5.out).2.1); rintro e w81 ⟨rfl, hb⟩; have n0_ := Aside0.mk (Kd.N_below (by (with_reducible repeat (first | apply Kd.N_alloc | apply Kd.N_drewN | apply Kd.N_drew)); exact HO_5.out) hb); have n1_ := Aside0.mk (Kd.N_below (by (with_reducible repeat (first | apply Kd.N_alloc | apply Kd.N_drewN | apply Kd.N_drew)); exact HO_9.out) hb); have n2_ := Aside0.mk (Kd.V_below (by (with_reducible repeat (first | apply Kd.V_alloc | apply Kd.V_drewN | apply Kd.V_drew)); exact HL442_1.out) hb); have n3_ := Aside0.mk (Kd.V_below (by (with_reducible repeat (first | apply Kd.V_alloc | apply Kd.V_drewN | apply Kd.V_drew)); exact HL443_1.out) hb); have n4_ := Aside0.mk (Kd.C_below (by repeat (first | (with_reducible exact HR442_1.out) | (with_reducible refine Kd.C_alloc ?_ _) | (with_reducible refine Kd.C_drewN ?_ _) | (with_reducible refine Kd.C_drew ?_) | exact HR442_1.out)) hb); have n5_ := Aside0.mk (Kd.C_below (by repeat (first | (with_reducible exact HR443_1.out) | (with_reducible refine Kd.C_alloc ?_ _) | (with_reducible refine Kd.C_drewN ?_ _) | (with_reducible refine Kd.C_drew ?_) | exact HR443_1.out)) hb); have n6_ := Aside0.mk (below_step bl hb); clear HO_5; clear HO_9; clear HL442_1; clear HL443_1; clear HR442_1; clear HR443_1; clear HB; have HO_5 := n0_; have HO_9 := n1_; have HL442_1 := n2_; have HL443_1 := n3_; have HR442_1 := n4_; have HR443_1 := n5_; have HB := n6_; clear n0_ n1_ n2_ n3_ n4_ n5_ n6_; (try clear hb); (try clear hb2); (try clear hk); (try clear hi); obtain ⟨Ao82, co82, eo82⟩ := Kd.N_slice HO_9.out; subst eo82) | (go_at_call 16; (with_reducible refine (entry_Sorted.calls k2 false _ _ x9_2 true _ ?side1 ?side2 A76.out).mono ?_); (case side1 => repeat (first | exact (Kd.N_reads' HO_9.out).2.2 | (with_reducible refine Kd.C_alloc ?_ _) | (with_reducible refine Kd.C_drewN ?_ _) | (with_reducible refine Kd.C_drew ?_))); (case side2 => exact (Kd.N_reads' HO_9.out).2.1); rintro e w83 ⟨rfl, hb⟩; have n0_ := Aside0.mk (Kd.N_below (by (with_reducible repeat (first | apply Kd.N_alloc | apply Kd.N_drewN | apply Kd.N_drew)); exact HO_5.out) hb); have n1_ := Aside0.mk (Kd.N_below (by (with_reducible repeat (first | apply Kd.N_alloc | apply Kd.N_drewN | apply Kd.N_drew)); exact HO_9.out) hb); have n2_ := Aside0.mk (Kd.V_below (by (with_reducible repeat (first | apply Kd.V_alloc | apply Kd.V_drewN | apply Kd.V_drew)); exact HL442_1.out) hb); have n3_ := Aside0.mk (Kd.V_below (by (with_reducible repeat (first | apply Kd.V_alloc | apply Kd.V_drewN | apply Kd.V_drew)); exact HL443_1.out) hb); have n4_ := Aside0.mk (Kd.C_below (by repeat (first | (with_reducible exact HR442_1.out) | (with_reducible refine Kd.C_alloc ?_ _) | (with_reducible refine Kd.C_drewN ?_ _) | (with_reducible refine Kd.C_drew ?_) | exact HR442_1.out)) hb); have n5_ := Aside0.mk (Kd.C_below (by repeat (first | (with_reducible exact HR443_1.out) | (with_reducible refine Kd.C_alloc ?_ _) | (with_reducible refine Kd.C_drewN ?_ _) | (with_reducible refine Kd.C_drew ?_) | exact HR443_1.out)) hb); have n6_ := Aside0.mk (below_step bl hb); clear HO_5; clear HO_9; clear HL442_1; clear HL443_1; clear HR442_1; clear HR443_1; clear HB; have HO_5 := n0_; have HO_9 := n1_; have HL442_1 := n2_; have HL443_1 := n3_; have HR442_1 := n4_; have HR443_1 := n5_; have HB := n6_; clear n0_ n1_ n2_ n3_ n4_ n5_ n6_; (try clear hb); (try clear hb2); (try clear hk); (try clear hi)) | (go_at_call 16; (with_reducible refine (entry_Sorted.calls k2 false _ _ x5_1 t447 _ ?side1 ?side2 A78.out).mono ?_); (case side1 => repeat (first | exact (Kd.N_reads' HO_5.out).2.2 | (with_reducible refine Kd.C_alloc ?_ _) | (with_reducible refine Kd.C_drewN ?_ _) | (with_reducible refine Kd.C_drew ?_))); (case side2 => exact (Kd.N_reads' HO_5.out).2.1); rintro e w84 ⟨rfl, hb⟩; have n0_ := Aside0.mk (Kd.N_below (by (with_reducible repeat (first | apply Kd.N_alloc | apply Kd.N_drewN | apply Kd.N_drew)); exact HO_5.out) hb); have n1_ := Aside0.mk (Kd.N_below (by (with_reducible repeat (first | apply Kd.N_alloc | apply Kd.N_drewN | apply Kd.N_drew)); exact HO_9.out) hb); have n2_ := Aside0.mk (Kd.V_below (by (with_reducible repeat (first | apply Kd.V_alloc | apply Kd.V_drewN | apply Kd.V_drew)); exact HL442_1.out) hb); have n3_ := Aside0.mk (Kd.V_below (by (with_reducible repeat (first | apply Kd.V_alloc | apply Kd.V_drewN | apply Kd.V_drew)); exact HL443_1.out) hb); have n4_ := Aside0.mk (Kd.C_below (by repeat (first | (with_reducible exact HR442_1.out) | (with_reducible refine Kd.C_alloc ?_ _) | (with_reducible refine Kd.C_drewN ?_ _) | (with_reducible refine Kd.C_drew ?_) | exact HR442_1.out)) hb); have n5_ := Aside0.mk (Kd.C_below (by repeat (first | (with_reducible exact HR443_1.out) | (with_reducible refine Kd.C_alloc ?_ _) | (with_reducible refine Kd.C_drewN ?_ _) | (with_reducible refine Kd.C_drew ?_) | exact HR443_1.out)) hb); have n6_ := Aside0.mk (below_step bl hb); clear HO_5; clear HO_9; clear HL442_1; clear HL443_1; clear HR442_1; clear HR443_1; clear HB; have HO_5 := n0_; have HO_9 := n1_; have HL442_1 := n2_; have HL443_1 := n3_; have HR442_1 := n4_; have HR443_1 := n5_; have HB := n6_; clear n0_ n1_ n2_ n3_ n4_ n5_ n6_; (try clear hb); (try clear hb2); (try clear hk); (try clear hi)))
               go_ret
               exact ⟨by first | rfl | (simp [errW_none, errW_some] <;> rfl) | (simp only [← hji69]; first | rfl | (simp [errW_none, errW_some] <;> rfl)) | (simp [*, errW_none, errW_some] <;> rfl), bl⟩
              ·replace c77 := Bool.eq_false_iff.mpr c77
               subst c77
               have H1 : (none) = some r := by rw [if_neg (show ¬ (false = true) by decide)] at H; exact H
               clear H
               have H := H1
               clear H1
               exact absurd H (by simp)
             ·replace c75 := Bool.eq_false_iff.mpr c75
              subst c75
              have H1 : (none) = some r := by rw [if_neg (show ¬ (false = true) by decide)] at H; exact H
              clear H
              have H := H1
              clear H1
              exact absurd H (by simp)
            ·exact absurd rfl c73
           ·rw [if_neg c71] at H
            exact absurd H (by simp)
          ·rw [if_neg c70] at H
           exact absurd H (by simp)
         ·rw [if_neg c68] at H
          exact absurd H (by simp)
 ·replace c3 := Bool.eq_false_iff.mpr c3
  subst c3
  have H1 : (none) = some r := by rw [if_neg (show ¬ (false = true) by decide)] at H; exact H
  clear H
  have H := H1
  clear H1
  exact absurd H (by simp)

end Go.Proofs.YtjmbddgbojcpmaaDoor.X
