-- Laid by xprint.py, a program of this session's, out of the translation.
import Derived.Test.YtielpefbgdilaaaX0
namespace Go.Proofs.Ytielpefbgdilaaa.X
open Go.RowKit Go.Proofs.YtielpefbgdilaaaW.PrintWords Go.Proofs.YtielpefbgdilaaaW.PrintLast Go.Proofs.YtielpefbgdilaaaW.PrintMore
attribute [local go_sem] max2_int min2_int max_two min_two max_three min_three max_four min_four x_isSome x_str_gtr x_str_leq x_str_geq   -- for this text's walks alone
set_option linter.unusedVariables false
set_option linter.unusedSimpArgs false

/-! ### archivistlaw10_line: function 9 -/
mutual
def archivistlaw10_line.l0 : Nat → List Int → List ByteArray → ByteArray → Int → Option (ByteArray)
  | 0, _, _, _, _ => none
  | k + 1, x0, x3, x4, x5 => if x5 < (x0.length : Int) then (archivistlaw10_line.j1 k x0 x3 x4 x5 (decide (x5 < 40))) else (archivistlaw10_line.j1 k x0 x3 x4 x5 false)
def archivistlaw10_line.j1 : Nat → List Int → List ByteArray → ByteArray → Int → Bool → Option (ByteArray)
  | 0, _, _, _, _, _ => none
  | k + 1, x0, x3, x4, x5, x14 => if x14 = true then (if 0 ≤ x5 then (if x5 < (x0.length : Int) then (if 0 ≤ (Int.tmod (rd x0 x5) 17) then (if (Int.tmod (rd x0 x5) 17) < (x3.length : Int) then (if x4.size + (rdOf ByteArray.empty x3 (Int.tmod (rd x0 x5) 17)).size ≤ 9223372036854775807 then (if (rd x0 x5) < 170 then (if (x4 ++ (rdOf ByteArray.empty x3 (Int.tmod (rd x0 x5) 17))).size + 1 ≤ 9223372036854775807 then (archivistlaw10_line.l0 k x0 x3 ((x4 ++ (rdOf ByteArray.empty x3 (Int.tmod (rd x0 x5) 17))) ++ (⟨#[32]⟩ : ByteArray)) (wrap64 (x5 + 1))) else (none)) else (archivistlaw10_line.l0 k x0 x3 (x4 ++ (rdOf ByteArray.empty x3 (Int.tmod (rd x0 x5) 17))) (wrap64 (x5 + 1)))) else (none)) else (none)) else (none)) else (none)) else (none)) else (some x4)
end
def archivistlaw10_line.f (k : Nat) (l0 : List Int) : Option (ByteArray) := archivistlaw10_line.l0 k l0 (([(⟨#[97, 112, 112, 61, 97]⟩ : ByteArray), (⟨#[108, 118, 108, 61, 98]⟩ : ByteArray), (⟨#[110, 61, 55]⟩ : ByteArray), (⟨#[100, 117, 114, 61, 53, 109]⟩ : ByteArray), (⟨#[32]⟩ : ByteArray), (⟨#[61]⟩ : ByteArray), (⟨#[34]⟩ : ByteArray), (⟨#[97]⟩ : ByteArray), (⟨#[120, 61, 34, 113, 32, 114, 34]⟩ : ByteArray), (⟨#[120, 61, 34]⟩ : ByteArray), (⟨#[57, 61, 49]⟩ : ByteArray), (⟨#[95, 98, 61]⟩ : ByteArray), (⟨#[9]⟩ : ByteArray), (⟨#[92]⟩ : ByteArray), (⟨#[115, 105, 122, 101, 61, 50, 75, 66]⟩ : ByteArray), (⟨#[110, 61, 56]⟩ : ByteArray), (⟨#[61, 61]⟩ : ByteArray)] : List ByteArray)) (⟨#[]⟩ : ByteArray) 0
theorem archivistlaw10_line.mono_l : ∀ k, (∀ y0 y1 y2 y3, LeO (archivistlaw10_line.l0 k y0 y1 y2 y3) (archivistlaw10_line.l0 (k + 1) y0 y1 y2 y3)) ∧ (∀ y0 y1 y2 y3 y4, LeO (archivistlaw10_line.j1 k y0 y1 y2 y3 y4) (archivistlaw10_line.j1 (k + 1) y0 y1 y2 y3 y4))
  | 0 => ⟨fun _ _ _ _ r h => by simp [archivistlaw10_line.l0] at h, fun _ _ _ _ _ r h => by simp [archivistlaw10_line.j1] at h⟩
  | k + 1 => by
    obtain ⟨ih0, ih1⟩ := archivistlaw10_line.mono_l k
    refine ⟨?_, ?_⟩
    · intro y0 y1 y2 y3
      unfold archivistlaw10_line.l0
      repeat' first
      | (with_reducible exact ih0 _ _ _ _)
      | (with_reducible exact ih1 _ _ _ _ _)
      | (with_reducible exact LeO.refl _)
      | (with_reducible exact LeO.none _)
      | (with_reducible refine LeO.ite ?_ ?_)
      | (with_reducible refine LeO.bind ?_ (fun _ => ?_))
      | exact ih0 _ _ _ _
      | exact ih1 _ _ _ _ _
      | exact LeO.none _
      | refine LeO.ite ?_ ?_
      | refine LeO.bind ?_ (fun _ => ?_)
    · intro y0 y1 y2 y3 y4
      unfold archivistlaw10_line.j1
      repeat' first
      | (with_reducible exact ih0 _ _ _ _)
      | (with_reducible exact ih1 _ _ _ _ _)
      | (with_reducible exact LeO.refl _)
      | (with_reducible exact LeO.none _)
      | (with_reducible refine LeO.ite ?_ ?_)
      | (with_reducible refine LeO.bind ?_ (fun _ => ?_))
      | exact ih0 _ _ _ _
      | exact ih1 _ _ _ _ _
      | exact LeO.none _
      | refine LeO.ite ?_ ?_
      | refine LeO.bind ?_ (fun _ => ?_)
theorem archivistlaw10_line.mono : ∀ a0 k, LeO (archivistlaw10_line.f k a0) (archivistlaw10_line.f (k + 1) a0) := by
  intro a0 k
  obtain ⟨ih0, ih1⟩ := archivistlaw10_line.mono_l k
  unfold archivistlaw10_line.f
  repeat' first
      | (with_reducible exact ih0 _ _ _ _)
      | (with_reducible exact ih1 _ _ _ _ _)
      | (with_reducible exact LeO.refl _)
      | (with_reducible exact LeO.none _)
      | (with_reducible refine LeO.ite ?_ ?_)
      | (with_reducible refine LeO.bind ?_ (fun _ => ?_))
      | exact ih0 _ _ _ _
      | exact ih1 _ _ _ _ _
      | exact LeO.none _
      | refine LeO.ite ?_ ?_
      | refine LeO.bind ?_ (fun _ => ?_)
set_option maxHeartbeats 8000000 in
set_option maxRecDepth 100000 in
theorem archivistlaw10_line.calls (k : Nat) (A0 : Option Addr) (c0 : Nat) (l0 : List Int) (r : ByteArray) (w : World) (hr0 : Kd.C (Kd.int .u8) w A0 l0.length l0) (hc0 : l0.length ≤ c0) (h : archivistlaw10_line.f k l0 = some r) :
    Calls Try.prog 9 #[.slice A0 l0.length c0] w fun e w' => e = .returned (.string r) ∧ Below w.heap.size w w' := by
  have HR0 := Aside0.mk hr0
  have HC0 := Aside0.mk hc0
  clear hr0 hc0
  have HB := Aside0.mk (Below.refl w.heap.size w)
  have H : (archivistlaw10_line.l0 k l0 (([(⟨#[97, 112, 112, 61, 97]⟩ : ByteArray), (⟨#[108, 118, 108, 61, 98]⟩ : ByteArray), (⟨#[110, 61, 55]⟩ : ByteArray), (⟨#[100, 117, 114, 61, 53, 109]⟩ : ByteArray), (⟨#[32]⟩ : ByteArray), (⟨#[61]⟩ : ByteArray), (⟨#[34]⟩ : ByteArray), (⟨#[97]⟩ : ByteArray), (⟨#[120, 61, 34, 113, 32, 114, 34]⟩ : ByteArray), (⟨#[120, 61, 34]⟩ : ByteArray), (⟨#[57, 61, 49]⟩ : ByteArray), (⟨#[95, 98, 61]⟩ : ByteArray), (⟨#[9]⟩ : ByteArray), (⟨#[92]⟩ : ByteArray), (⟨#[115, 105, 122, 101, 61, 50, 75, 66]⟩ : ByteArray), (⟨#[110, 61, 56]⟩ : ByteArray), (⟨#[61, 61]⟩ : ByteArray)] : List ByteArray)) (⟨#[]⟩ : ByteArray) 0) = some r := h
  clear h
  obtain ⟨y270, hy270⟩ : ∃ y_ : List ByteArray, y_ = (([(⟨#[97, 112, 112, 61, 97]⟩ : ByteArray), (⟨#[108, 118, 108, 61, 98]⟩ : ByteArray), (⟨#[110, 61, 55]⟩ : ByteArray), (⟨#[100, 117, 114, 61, 53, 109]⟩ : ByteArray), (⟨#[32]⟩ : ByteArray), (⟨#[61]⟩ : ByteArray), (⟨#[34]⟩ : ByteArray), (⟨#[97]⟩ : ByteArray), (⟨#[120, 61, 34, 113, 32, 114, 34]⟩ : ByteArray), (⟨#[120, 61, 34]⟩ : ByteArray), (⟨#[57, 61, 49]⟩ : ByteArray), (⟨#[95, 98, 61]⟩ : ByteArray), (⟨#[9]⟩ : ByteArray), (⟨#[92]⟩ : ByteArray), (⟨#[115, 105, 122, 101, 61, 50, 75, 66]⟩ : ByteArray), (⟨#[110, 61, 56]⟩ : ByteArray), (⟨#[61, 61]⟩ : ByteArray)] : List ByteArray)) := ⟨_, rfl⟩
  replace H : (archivistlaw10_line.l0 k l0 y270 (⟨#[]⟩ : ByteArray) 0) = some r := by first | (rw [hy270]; with_reducible exact H) | (have H2_ := (Option.bind_some _ _).symm.trans H; rw [hy270]; with_reducible exact H2_) | (have H2_ := (Option.bind_some _ _).symm.trans H; with_reducible exact H2_) | with_reducible exact H | (rw [hy270]; exact H) | exact H
  have Ny270 := Aside0.mk hy270
  clear hy270
  have H' := Aside0.mk H
  clear H
  go_enter Try.func9, Try.ntmps9
  go_wp2_with (first | ((with_reducible refine gate_dst (N := 6) rfl ?_); refine Kd.R_lit Kd.string _ 9 ?hg (N := 6) ?hd (xs := ([(⟨#[97, 112, 112, 61, 97]⟩ : ByteArray), (⟨#[108, 118, 108, 61, 98]⟩ : ByteArray), (⟨#[110, 61, 55]⟩ : ByteArray), (⟨#[100, 117, 114, 61, 53, 109]⟩ : ByteArray), (⟨#[32]⟩ : ByteArray), (⟨#[61]⟩ : ByteArray), (⟨#[34]⟩ : ByteArray), (⟨#[97]⟩ : ByteArray), (⟨#[120, 61, 34, 113, 32, 114, 34]⟩ : ByteArray), (⟨#[120, 61, 34]⟩ : ByteArray), (⟨#[57, 61, 49]⟩ : ByteArray), (⟨#[95, 98, 61]⟩ : ByteArray), (⟨#[9]⟩ : ByteArray), (⟨#[92]⟩ : ByteArray), (⟨#[115, 105, 122, 101, 61, 50, 75, 66]⟩ : ByteArray), (⟨#[110, 61, 56]⟩ : ByteArray), (⟨#[61, 61]⟩ : ByteArray)] : List ByteArray)) (inner := [.string (⟨#[97, 112, 112, 61, 97]⟩ : ByteArray), .string (⟨#[108, 118, 108, 61, 98]⟩ : ByteArray), .string (⟨#[110, 61, 55]⟩ : ByteArray), .string (⟨#[100, 117, 114, 61, 53, 109]⟩ : ByteArray), .string (⟨#[32]⟩ : ByteArray), .string (⟨#[61]⟩ : ByteArray), .string (⟨#[34]⟩ : ByteArray), .string (⟨#[97]⟩ : ByteArray), .string (⟨#[120, 61, 34, 113, 32, 114, 34]⟩ : ByteArray), .string (⟨#[120, 61, 34]⟩ : ByteArray), .string (⟨#[57, 61, 49]⟩ : ByteArray), .string (⟨#[95, 98, 61]⟩ : ByteArray), .string (⟨#[9]⟩ : ByteArray), .string (⟨#[92]⟩ : ByteArray), .string (⟨#[115, 105, 122, 101, 61, 50, 75, 66]⟩ : ByteArray), .string (⟨#[110, 61, 56]⟩ : ByteArray), .string (⟨#[61, 61]⟩ : ByteArray)]) (ok := fun _ => True) (okp := fun _ => True) ?hr ?hp (fun _ hk => hk) trivial (Below.refl _ _) (Nat.le_refl _) (by simp) ?_; (case hd => rfl); (case hg => rfl); (case hr => first | (go_simp; done) | (go_simp; rfl)); (case hp => exact (Reps.one (show Kd.M Kd.string _ _ _ (⟨#[97, 112, 112, 61, 97]⟩ : ByteArray) [.string (⟨#[97, 112, 112, 61, 97]⟩ : ByteArray)] from rfl) (Reps.one (show Kd.M Kd.string _ _ _ (⟨#[108, 118, 108, 61, 98]⟩ : ByteArray) [.string (⟨#[108, 118, 108, 61, 98]⟩ : ByteArray)] from rfl) (Reps.one (show Kd.M Kd.string _ _ _ (⟨#[110, 61, 55]⟩ : ByteArray) [.string (⟨#[110, 61, 55]⟩ : ByteArray)] from rfl) (Reps.one (show Kd.M Kd.string _ _ _ (⟨#[100, 117, 114, 61, 53, 109]⟩ : ByteArray) [.string (⟨#[100, 117, 114, 61, 53, 109]⟩ : ByteArray)] from rfl) (Reps.one (show Kd.M Kd.string _ _ _ (⟨#[32]⟩ : ByteArray) [.string (⟨#[32]⟩ : ByteArray)] from rfl) (Reps.one (show Kd.M Kd.string _ _ _ (⟨#[61]⟩ : ByteArray) [.string (⟨#[61]⟩ : ByteArray)] from rfl) (Reps.one (show Kd.M Kd.string _ _ _ (⟨#[34]⟩ : ByteArray) [.string (⟨#[34]⟩ : ByteArray)] from rfl) (Reps.one (show Kd.M Kd.string _ _ _ (⟨#[97]⟩ : ByteArray) [.string (⟨#[97]⟩ : ByteArray)] from rfl) (Reps.one (show Kd.M Kd.string _ _ _ (⟨#[120, 61, 34, 113, 32, 114, 34]⟩ : ByteArray) [.string (⟨#[120, 61, 34, 113, 32, 114, 34]⟩ : ByteArray)] from rfl) (Reps.one (show Kd.M Kd.string _ _ _ (⟨#[120, 61, 34]⟩ : ByteArray) [.string (⟨#[120, 61, 34]⟩ : ByteArray)] from rfl) (Reps.one (show Kd.M Kd.string _ _ _ (⟨#[57, 61, 49]⟩ : ByteArray) [.string (⟨#[57, 61, 49]⟩ : ByteArray)] from rfl) (Reps.one (show Kd.M Kd.string _ _ _ (⟨#[95, 98, 61]⟩ : ByteArray) [.string (⟨#[95, 98, 61]⟩ : ByteArray)] from rfl) (Reps.one (show Kd.M Kd.string _ _ _ (⟨#[9]⟩ : ByteArray) [.string (⟨#[9]⟩ : ByteArray)] from rfl) (Reps.one (show Kd.M Kd.string _ _ _ (⟨#[92]⟩ : ByteArray) [.string (⟨#[92]⟩ : ByteArray)] from rfl) (Reps.one (show Kd.M Kd.string _ _ _ (⟨#[115, 105, 122, 101, 61, 50, 75, 66]⟩ : ByteArray) [.string (⟨#[115, 105, 122, 101, 61, 50, 75, 66]⟩ : ByteArray)] from rfl) (Reps.one (show Kd.M Kd.string _ _ _ (⟨#[110, 61, 56]⟩ : ByteArray) [.string (⟨#[110, 61, 56]⟩ : ByteArray)] from rfl) (Reps.one (show Kd.M Kd.string _ _ _ (⟨#[61, 61]⟩ : ByteArray) [.string (⟨#[61, 61]⟩ : ByteArray)] from rfl) (Reps.none _ _))))))))))))))))))); intro v271 w2 ho3 hb hg_ hnew_; clear hg_ hnew_; (first | rw [← Ny270.out] at ho3 | (simp only [Int.reduceToNat] at ho3; rw [← Ny270.out] at ho3)); have n0_ := Aside0.mk (Kd.R_lower ho3 (below_size (by repeat (first | (with_reducible first | exact HB.out | apply below_alloc | apply pw_below_drewN | apply below_drew1) | exact HB.out)))); have n1_ := Aside0.mk (below_step (by repeat (first | (with_reducible first | exact HB.out | apply below_alloc | apply pw_below_drewN | apply below_drew1) | exact HB.out)) hb); clear HB; have HO272 := n0_; have HB := n1_; clear n0_ n1_; clear hb ho3))
  go_loopg [4, 5] k (fun kq v4 v5 w' => ∃ (x4_1 : ByteArray) (x5_1 : Int), v4 = .string x4_1 ∧ v5 = .int .i64 x5_1 ∧ Aside0 (archivistlaw10_line.l0 kq l0 y270 x4_1 x5_1 = some r) ∧ Aside0 (kq ≤ k) ∧ Aside0 (Kd.R Kd.string 9 w' w.heap.size (fun _ => True) v271 y270) ∧ Aside0 (Below w.heap.size w w'))
  case atStart => exact ⟨((⟨#[]⟩ : ByteArray)), (0), (by first | rfl | (simp; done) | (simp [*]; done)), (by first | rfl | (simp; done) | (simp [*]; done)), H', ⟨Nat.le_refl _⟩, ⟨by (with_reducible repeat (first | apply Kd.R_alloc | apply Kd.R_drewN | apply Kd.R_drew)); exact HO272.out⟩, ⟨by repeat (first | (with_reducible first | exact HB.out | apply below_alloc | apply pw_below_drewN | apply below_drew1) | exact HB.out)⟩⟩
  case round =>
    clear H'
    try clear p2
    obtain ⟨x4_1, x5_1, rfl, rfl, HA, HK1, HO_3, HB⟩ := hrel
    cases gk with
    | zero => exact absurd HA.out (by simp [archivistlaw10_line.l0])
    | succ k1 =>
      have H := HA.out
      clear HA
      simp only [archivistlaw10_line.l0] at H
      have HC4 := Aside0.mk H
      clear H
      go_upto_region 4 with (fail)
      go_cut [14] (fun v14 wc => ∃ (kq : Nat) (x14_3 : Bool), v14 = .bool x14_3 ∧ Aside0 (archivistlaw10_line.j1 kq l0 y270 x4_1 x5_1 x14_3 = some r) ∧ Aside0 (kq ≤ k1) ∧ Aside0 (Kd.R Kd.string 9 wc w.heap.size (fun _ => True) v271 y270) ∧ Aside0 (Below w.heap.size w wc))
      case first =>
        have H := HC4.out
        clear HC4
        by_cases c5 : x5_1 < (l0.length : Int)
        · rw [if_pos c5] at H
          have c5b0 : decide (x5_1 < (l0.length : Int)) = true := decide_eq_true c5
          clear c5
          (first | rw [c5b0] | (simp only [i64_w, i32_w]; rw [c5b0]) | skip)
          have H' := Aside0.mk H
          clear H
          go_wp2
          go_meet
          case rel => exact ⟨_, (decide (x5_1 < 40)), (by first | rfl | (simp; done) | (simp [*]; done)), H', ⟨by have := HK1.out; first | omega | exact Nat.le_refl _⟩, ⟨by (with_reducible repeat (first | apply Kd.R_alloc | apply Kd.R_drewN | apply Kd.R_drew)); exact HO_3.out⟩, ⟨by repeat (first | (with_reducible first | exact HB.out | apply below_alloc | apply pw_below_drewN | apply below_drew1) | exact HB.out)⟩⟩
        · rw [if_neg c5] at H
          have c5b0 : decide (x5_1 < (l0.length : Int)) = false := decide_eq_false c5
          clear c5
          (first | rw [c5b0] | (simp only [i64_w, i32_w]; rw [c5b0]) | skip)
          have H' := Aside0.mk H
          clear H
          go_wp2
          go_meet
          case rel => exact ⟨_, (false), (by first | rfl | (simp; done) | (simp [*]; done)), H', ⟨by have := HK1.out; first | omega | exact Nat.le_refl _⟩, ⟨by (with_reducible repeat (first | apply Kd.R_alloc | apply Kd.R_drewN | apply Kd.R_drew)); exact HO_3.out⟩, ⟨by repeat (first | (with_reducible first | exact HB.out | apply below_alloc | apply pw_below_drewN | apply below_drew1) | exact HB.out)⟩⟩
      case rest =>
        clear HC4
        try clear p2
        try clear c5
        try clear c5b0
        try clear p2
        obtain ⟨kq, x14_3, rfl, HA, HJ3, HO_3, HB⟩ := hcut
        cases kq with
        | zero => exact absurd HA.out (by simp [archivistlaw10_line.j1])
        | succ kj3 =>
          have H := HA.out
          clear HA
          simp only [archivistlaw10_line.j1] at H
          by_cases c6 : x14_3 = true
          · subst c6
            have H1 : (if 0 ≤ x5_1 then (if x5_1 < (l0.length : Int) then (if 0 ≤ (Int.tmod (rd l0 x5_1) 17) then (if (Int.tmod (rd l0 x5_1) 17) < (y270.length : Int) then (if x4_1.size + (rdOf ByteArray.empty y270 (Int.tmod (rd l0 x5_1) 17)).size ≤ 9223372036854775807 then (if (rd l0 x5_1) < 170 then (if (x4_1 ++ (rdOf ByteArray.empty y270 (Int.tmod (rd l0 x5_1) 17))).size + 1 ≤ 9223372036854775807 then (archivistlaw10_line.l0 kj3 l0 y270 ((x4_1 ++ (rdOf ByteArray.empty y270 (Int.tmod (rd l0 x5_1) 17))) ++ (⟨#[32]⟩ : ByteArray)) (wrap64 (x5_1 + 1))) else (none)) else (archivistlaw10_line.l0 kj3 l0 y270 (x4_1 ++ (rdOf ByteArray.empty y270 (Int.tmod (rd l0 x5_1) 17))) (wrap64 (x5_1 + 1)))) else (none)) else (none)) else (none)) else (none)) else (none)) = some r := by rw [if_pos rfl] at H; exact H
            clear H
            have H := H1
            clear H1
            by_cases c7 : 0 ≤ x5_1
            · rw [if_pos c7] at H
              have c7b0 : decide (0 ≤ x5_1) = true := decide_eq_true c7
              clear c7
              by_cases c8 : x5_1 < (l0.length : Int)
              · rw [if_pos c8] at H
                have c8b0 : decide (x5_1 < (l0.length : Int)) = true := decide_eq_true c8
                clear c8
                obtain ⟨ji9, hji9⟩ : ∃ j_ : Int, (Int.tmod (rd l0 x5_1) 17) = j_ := ⟨_, rfl⟩
                replace H : (if 0 ≤ (ji9) then (if (ji9) < (y270.length : Int) then (if x4_1.size + (rdOf ByteArray.empty y270 (ji9)).size ≤ 9223372036854775807 then (if (rd l0 x5_1) < 170 then (if (x4_1 ++ (rdOf ByteArray.empty y270 (ji9))).size + 1 ≤ 9223372036854775807 then (archivistlaw10_line.l0 kj3 l0 y270 ((x4_1 ++ (rdOf ByteArray.empty y270 (ji9))) ++ (⟨#[32]⟩ : ByteArray)) (wrap64 (x5_1 + 1))) else (none)) else (archivistlaw10_line.l0 kj3 l0 y270 (x4_1 ++ (rdOf ByteArray.empty y270 (ji9))) (wrap64 (x5_1 + 1)))) else (none)) else (none)) else (none)) = some r := by first | (rw [hji9] at H; exact H) | (simp only [hji9] at H ⊢; exact H)
                by_cases c10 : 0 ≤ (ji9)
                · rw [if_pos c10] at H
                  have c10b0 : decide (0 ≤ (ji9)) = true := decide_eq_true c10
                  clear c10
                  by_cases c11 : (ji9) < (y270.length : Int)
                  · rw [if_pos c11] at H
                    have c11b0 : decide ((ji9) < (y270.length : Int)) = true := decide_eq_true c11
                    clear c11
                    by_cases c12 : x4_1.size + (rdOf ByteArray.empty y270 (ji9)).size ≤ 9223372036854775807
                    · rw [if_pos c12] at H
                      have c12b0 := eq_true c12
                      have c12b1 : decide (x4_1.size + (rdOf ByteArray.empty y270 (ji9)).size ≤ 9223372036854775807) = true := decide_eq_true c12
                      try have c12b2 : (9223372036854775807 < x4_1.size + (rdOf ByteArray.empty y270 (ji9)).size) = False := eq_false (Nat.not_lt.2 c12)
                      by_cases c13 : (rd l0 x5_1) < 170
                      · rw [if_pos c13] at H
                        have c13b0 : decide ((rd l0 x5_1) < 170) = true := decide_eq_true c13
                        clear c13
                        by_cases c14 : (x4_1 ++ (rdOf ByteArray.empty y270 (ji9))).size + 1 ≤ 9223372036854775807
                        · rw [if_pos c14] at H
                          have c14b0 := eq_true c14
                          have c14b1 : decide ((x4_1 ++ (rdOf ByteArray.empty y270 (ji9))).size + 1 ≤ 9223372036854775807) = true := decide_eq_true c14
                          try have c14b2 : (9223372036854775807 < (x4_1 ++ (rdOf ByteArray.empty y270 (ji9))).size + 1) = False := eq_false (Nat.not_lt.2 c14)
                          try (have c14b3 : (9223372036854775807 < (x4_1 ++ (rdOf ByteArray.empty y270 (ji9))).size + 1) = False := eq_false (Nat.not_lt.2 c14); simp only [ByteArray.size_append, Nat.add_zero, Nat.zero_add] at c14b3)
                          have H' := Aside0.mk H
                          clear H
                          have p273 : 0 ≤ (x5_1 : Int) := of_decide_eq_true (by first | (with_reducible assumption) | assumption)
                          have q273 : x5_1 < (l0.length : Int) := of_decide_eq_true (by first | (with_reducible assumption) | assumption)
                          obtain ⟨ad273, e273, hx273_0⟩ := Kd.at_int HR0.out x5_1 p273 q273
                          cases e273
                          replace hx273_0 := (HB.out.cell (World.block_lt_of_cell? w _ hx273_0)).trans hx273_0
                          replace p273 := eq_true p273
                          replace q273 := eq_true q273
                          obtain ⟨Ao15, co15, eo15⟩ := Kd.R_slice HO_3.out
                          subst eo15
                          have p274 : 0 ≤ ((ji9) : Int) := of_decide_eq_true (by first | (with_reducible assumption) | assumption)
                          have q274 : (ji9) < (y270.length : Int) := of_decide_eq_true (by first | (with_reducible assumption) | assumption)
                          obtain ⟨ad274, e274, hx274_0⟩ := Kd.at_string (Kd.R_reads' HO_3.out).2.2 (ji9) p274 q274
                          cases e274
                          replace p274 := eq_true p274
                          replace q274 := eq_true q274
                          have p275 : 0 ≤ (x5_1 : Int) := of_decide_eq_true (by first | (with_reducible assumption) | assumption)
                          have q275 : x5_1 < (l0.length : Int) := of_decide_eq_true (by first | (with_reducible assumption) | assumption)
                          obtain ⟨ad275, e275, hx275_0⟩ := Kd.at_int HR0.out x5_1 p275 q275
                          obtain rfl : ad273 = ad275 := (by injection e275)
                          replace hx275_0 := (HB.out.cell (World.block_lt_of_cell? w _ hx275_0)).trans hx275_0
                          replace p275 := eq_true p275
                          replace q275 := eq_true q275
                          go_wp2
                          go_roundg kj3
                          case measure => have := HK1.out; have := HJ3.out; omega
                          case rel => exact ⟨((x4_1 ++ (rdOf ByteArray.empty y270 (ji9))) ++ (⟨#[32]⟩ : ByteArray)), (wrap64 (x5_1 + 1)), (by first | rfl | (simp; done) | (simp only [← hji9] <;> (first | rfl | simp)) | (simp [*]; done)), (by first | rfl | (simp; done) | (simp [*]; done)), H', ⟨by have := HK1.out; have := HJ3.out; omega⟩, ⟨by (with_reducible repeat (first | apply Kd.R_alloc | apply Kd.R_drewN | apply Kd.R_drew)); exact HO_3.out⟩, ⟨by repeat (first | (with_reducible first | exact HB.out | apply below_alloc | apply pw_below_drewN | apply below_drew1) | exact HB.out)⟩⟩
                        · rw [if_neg c14] at H
                          exact absurd H (by simp)
                      · rw [if_neg c13] at H
                        have c13b0 : decide ((rd l0 x5_1) < 170) = false := decide_eq_false c13
                        clear c13
                        have H' := Aside0.mk H
                        clear H
                        have p273 : 0 ≤ (x5_1 : Int) := of_decide_eq_true (by first | (with_reducible assumption) | assumption)
                        have q273 : x5_1 < (l0.length : Int) := of_decide_eq_true (by first | (with_reducible assumption) | assumption)
                        obtain ⟨ad273, e273, hx273_0⟩ := Kd.at_int HR0.out x5_1 p273 q273
                        cases e273
                        replace hx273_0 := (HB.out.cell (World.block_lt_of_cell? w _ hx273_0)).trans hx273_0
                        replace p273 := eq_true p273
                        replace q273 := eq_true q273
                        obtain ⟨Ao16, co16, eo16⟩ := Kd.R_slice HO_3.out
                        subst eo16
                        have p274 : 0 ≤ ((ji9) : Int) := of_decide_eq_true (by first | (with_reducible assumption) | assumption)
                        have q274 : (ji9) < (y270.length : Int) := of_decide_eq_true (by first | (with_reducible assumption) | assumption)
                        obtain ⟨ad274, e274, hx274_0⟩ := Kd.at_string (Kd.R_reads' HO_3.out).2.2 (ji9) p274 q274
                        cases e274
                        replace p274 := eq_true p274
                        replace q274 := eq_true q274
                        have p275 : 0 ≤ (x5_1 : Int) := of_decide_eq_true (by first | (with_reducible assumption) | assumption)
                        have q275 : x5_1 < (l0.length : Int) := of_decide_eq_true (by first | (with_reducible assumption) | assumption)
                        obtain ⟨ad275, e275, hx275_0⟩ := Kd.at_int HR0.out x5_1 p275 q275
                        obtain rfl : ad273 = ad275 := (by injection e275)
                        replace hx275_0 := (HB.out.cell (World.block_lt_of_cell? w _ hx275_0)).trans hx275_0
                        replace p275 := eq_true p275
                        replace q275 := eq_true q275
                        go_wp2
                        go_roundg kj3
                        case measure => have := HK1.out; have := HJ3.out; omega
                        case rel => exact ⟨(x4_1 ++ (rdOf ByteArray.empty y270 (ji9))), (wrap64 (x5_1 + 1)), (by first | rfl | (simp; done) | (simp only [← hji9] <;> (first | rfl | simp)) | (simp [*]; done)), (by first | rfl | (simp; done) | (simp [*]; done)), H', ⟨by have := HK1.out; have := HJ3.out; omega⟩, ⟨by (with_reducible repeat (first | apply Kd.R_alloc | apply Kd.R_drewN | apply Kd.R_drew)); exact HO_3.out⟩, ⟨by repeat (first | (with_reducible first | exact HB.out | apply below_alloc | apply pw_below_drewN | apply below_drew1) | exact HB.out)⟩⟩
                    · rw [if_neg c12] at H
                      exact absurd H (by simp)
                  · rw [if_neg c11] at H
                    exact absurd H (by simp)
                · rw [if_neg c10] at H
                  exact absurd H (by simp)
              · rw [if_neg c8] at H
                exact absurd H (by simp)
            · rw [if_neg c7] at H
              exact absurd H (by simp)
          · replace c6 := Bool.eq_false_iff.mpr c6
            subst c6
            have H1 : (some x4_1) = some r := by rw [if_neg (show ¬ (false = true) by decide)] at H; exact H
            clear H
            have H := H1
            clear H1
            obtain rfl := Option.some.inj H
            go_wp2
            go_ret
            exact ⟨by first | rfl | (simp [errW_none, errW_some] <;> rfl) | (simp [*, errW_none, errW_some] <;> rfl), by repeat (first | (with_reducible first | exact HB.out | apply below_alloc | apply pw_below_drewN | apply below_drew1) | exact HB.out)⟩

end Go.Proofs.Ytielpefbgdilaaa.X
