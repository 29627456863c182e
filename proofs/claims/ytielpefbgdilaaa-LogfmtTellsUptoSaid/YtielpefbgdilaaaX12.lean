-- Laid by xprint.py, a program of this session's, out of the translation.
import Derived.Test.YtielpefbgdilaaaX0
namespace Go.Proofs.Ytielpefbgdilaaa.X
open Go.RowKit Go.Proofs.YtielpefbgdilaaaW.PrintWords Go.Proofs.YtielpefbgdilaaaW.PrintLast Go.Proofs.YtielpefbgdilaaaW.PrintMore
attribute [local go_sem] max2_int min2_int max_two min_two max_three min_three max_four min_four x_isSome x_str_gtr x_str_leq x_str_geq   -- for this text's walks alone
set_option linter.unusedVariables false
set_option linter.unusedSimpArgs false

/-! ### archivistlaw10_line: function 9 -/
mutual
def archivistlaw10_line.l0 : Nat → List Int → List ByteArray → ByteArray → Int → Option (ByteArray)
 | 0, _, _, _, _ => none
 | k + 1, x0, x3, x4, x5 => if x5 < (x0.length : Int) then (archivistlaw10_line.j1 k x0 x3 x4 x5 (decide (x5 < 40))) else (archivistlaw10_line.j1 k x0 x3 x4 x5 false)
def archivistlaw10_line.j1 : Nat → List Int → List ByteArray → ByteArray → Int → Bool → Option (ByteArray)
 | 0, _, _, _, _, _ => none
 | k + 1, x0, x3, x4, x5, x14 => if x14 = true then (if 0 ≤ x5 then (if x5 < (x0.length : Int) then (if 0 ≤ (Int.tmod (rd x0 x5) 17) then (if (Int.tmod (rd x0 x5) 17) < (x3.length : Int) then (if x4.size + (rdOf ByteArray.empty x3 (Int.tmod (rd x0 x5) 17)).size ≤ 9223372036854775807 then (if (rd x0 x5) < 170 then (if (x4 ++ (rdOf ByteArray.empty x3 (Int.tmod (rd x0 x5) 17))).size + 1 ≤ 9223372036854775807 then (archivistlaw10_line.l0 k x0 x3 ((x4 ++ (rdOf ByteArray.empty x3 (Int.tmod (rd x0 x5) 17))) ++ (⟨#[32]⟩ : ByteArray)) (wrap64 (x5 + 1))) else (none)) else (archivistlaw10_line.l0 k x0 x3 (x4 ++ (rdOf ByteArray.empty x3 (Int.tmod (rd x0 x5) 17))) (wrap64 (x5 + 1)))) else (none)) else (none)) else (none)) else (none)) else (none)) else (some x4)
end
def archivistlaw10_line.f (k : Nat) (l0 : List Int) : Option (ByteArray) := archivistlaw10_line.l0 k l0 (([(⟨#[97, 112, 112, 61, 97]⟩ : ByteArray), (⟨#[108, 118, 108, 61, 98]⟩ : ByteArray), (⟨#[110, 61, 55]⟩ : ByteArray), (⟨#[100, 117, 114, 61, 53, 109]⟩ : ByteArray), (⟨#[32]⟩ : ByteArray), (⟨#[61]⟩ : ByteArray), (⟨#[34]⟩ : ByteArray), (⟨#[97]⟩ : ByteArray), (⟨#[120, 61, 34, 113, 32, 114, 34]⟩ : ByteArray), (⟨#[120, 61, 34]⟩ : ByteArray), (⟨#[57, 61, 49]⟩ : ByteArray), (⟨#[95, 98, 61]⟩ : ByteArray), (⟨#[9]⟩ : ByteArray), (⟨#[92]⟩ : ByteArray), (⟨#[115, 105, 122, 101, 61, 50, 75, 66]⟩ : ByteArray), (⟨#[110, 61, 56]⟩ : ByteArray), (⟨#[61, 61]⟩ : ByteArray)] : List ByteArray)) (⟨#[]⟩ : ByteArray) 0
theorem archivistlaw10_line.mono_l : ∀ k, (∀ y0 y1 y2 y3, LeO (archivistlaw10_line.l0 k y0 y1 y2 y3) (archivistlaw10_line.l0 (k + 1) y0 y1 y2 y3)) ∧ (∀ y0 y1 y2 y3 y4, LeO (archivistlaw10_line.j1 k y0 y1 y2 y3 y4) (archivistlaw10_line.j1 (k + 1) y0 y1 y2 y3 y4))
 | 0 => ⟨fun _ _ _ _ r h => by simp [archivistlaw10_line.l0] at h, fun _ _ _ _ _ r h => by simp [archivistlaw10_line.j1] at h⟩
 | k + 1 => by
  obtain ⟨ih0, ih1⟩ := archivistlaw10_line.mono_l k
  refine ⟨?_, ?_⟩
  ·intro y0 y1 y2 y3
   unfold archivistlaw10_line.l0
   repeat' first
   | (with_reducible exact ih0 _ _ _ _)
   | (with_reducible exact ih1 _ _ _ _ _)
   | (with_reducible exact LeO.refl _)
   | (with_reducible exact LeO.none _)
   | (with_reducible refine LeO.ite ?_ ?_)
   | (with_reducible refine LeO.bind ?_ (fun _ => ?_))
   | exact ih0 _ _ _ _
   | exact ih1 _ _ _ _ _
   | exact LeO.none _
   | refine LeO.ite ?_ ?_
   | refine LeO.bind ?_ (fun _ => ?_)
  ·intro y0 y1 y2 y3 y4
   unfold archivistlaw10_line.j1
   repeat' first
   | (with_reducible exact ih0 _ _ _ _)
   | (with_reducible exact ih1 _ _ _ _ _)
   | (with_reducible exact LeO.refl _)
   | (with_reducible exact LeO.none _)
   | (with_reducible refine LeO.ite ?_ ?_)
   | (with_reducible refine LeO.bind ?_ (fun _ => ?_))
   | exact ih0 _ _ _ _
   | exact ih1 _ _ _ _ _
   | exact LeO.none _
   | refine LeO.ite ?_ ?_
   | refine LeO.bind ?_ (fun _ => ?_)
theorem archivistlaw10_line.mono : ∀ a0 k, LeO (archivistlaw10_line.f k a0) (archivistlaw10_line.f (k + 1) a0) := by
 intro a0 k
 obtain ⟨ih0, ih1⟩ := archivistlaw10_line.mono_l k
 unfold archivistlaw10_line.f
 repeat' first
   | (with_reducible exact ih0 _ _ _ _)
   | (with_reducible exact ih1 _ _ _ _ _)
   | (with_reducible exact LeO.refl _)
   | (with_reducible exact LeO.none _)
   | (with_reducible refine LeO.ite ?_ ?_)
   | (with_reducible refine LeO.bind ?_ (fun _ => ?_))
   | exact ih0 _ _ _ _
   | exact ih1 _ _ _ _ _
   | exact LeO.none _
   | refine LeO.ite ?_ ?_
   | refine LeO.bind ?_ (fun _ => ?_)
set_option maxHeartbeats 8000000 in
set_option maxRecDepth 100000 in
theorem archivistlaw10_line.calls (k : Nat) (A0 : Option Addr) (c0 : Nat) (l0 : List Int) (r : ByteArray) (w : World) (hr0 : Kd.C (Kd.int .u8) w A0 l0.length l0) (hc0 : l0.length ≤ c0) (h : archivistlaw10_line.f k l0 = some r) :
  Calls Try.prog 9 #[.slice A0 l0.length c0] w fun e w' => e = .returned (.string r) ∧ Below w.heap.size w w' := by
 have HR0 := Aside0.mk hr0
 have HC0 := Aside0.mk hc0
 clear hr0 hc0
 have HB := Aside0.mk (Below.refl w.heap.size w)
 have H : (archivistlaw10_line.l0 k l0 (([(⟨#[97, 112, 112, 61, 97]⟩ : ByteArray), (⟨#[108, 118, 108, 61, 98]⟩ : ByteArray), (⟨#[110, 61, 55]⟩ : ByteArray), (⟨#[100, 117, 114, 61, 53, 109]⟩ : ByteArray), (⟨#[32]⟩ : ByteArray), (⟨#[61]⟩ : ByteArray), (⟨#[34]⟩ : ByteArray), (⟨#[97]⟩ : ByteArray), (⟨#[120, 61, 34, 113, 32, 114, 34]⟩ : ByteArray), (⟨#[120, 61, 34]⟩ : ByteArray), (⟨#[57, 61, 49]⟩ : ByteArray), (⟨#[95, 98, 61]⟩ : ByteArray), (⟨#[9]⟩ : ByteArray), (⟨#[92]⟩ : ByteArray), (⟨#[115, 105, 122, 101, 61, 50, 75, 66]⟩ : ByteArray), (⟨#[110, 61, 56]⟩ : ByteArray), (⟨#[61, 61]⟩ : ByteArray)] : List ByteArray)) (⟨#[]⟩ : ByteArray) 0) = some r := h
 clear h
 obtain ⟨y230, hy230⟩ : ∃ y_ : List ByteArray, y_ = (([(⟨#[97, 112, 112, 61, 97]⟩ : ByteArray), (⟨#[108, 118, 108, 61, 98]⟩ : ByteArray), (⟨#[110, 61, 55]⟩ : ByteArray), (⟨#[100, 117, 114, 61, 53, 109]⟩ : ByteArray), (⟨#[32]⟩ : ByteArray), (⟨#[61]⟩ : ByteArray), (⟨#[34]⟩ : ByteArray), (⟨#[97]⟩ : ByteArray), (⟨#[120, 61, 34, 113, 32, 114, 34]⟩ : ByteArray), (⟨#[120, 61, 34]⟩ : ByteArray), (⟨#[57, 61, 49]⟩ : ByteArray), (⟨#[95, 98, 61]⟩ : ByteArray), (⟨#[9]⟩ : ByteArray), (⟨#[92]⟩ : ByteArray), (⟨#[115, 105, 122, 101, 61, 50, 75, 66]⟩ : ByteArray), (⟨#[110, 61, 56]⟩ : ByteArray), (⟨#[61, 61]⟩ : ByteArray)] : List ByteArray)) := ⟨_, rfl⟩
 replace H : (archivistlaw10_line.l0 k l0 y230 (⟨#[]⟩ : ByteArray) 0) = some r := by first | (rw [hy230]; with_reducible exact H) | (have H2_ := (Option.bind_some _ _).symm.trans H; rw [hy230]; with_reducible exact H2_) | (have H2_ := (Option.bind_some _ _).symm.trans H; with_reducible exact H2_) | with_reducible exact H | (rw [hy230]; exact H) | exact H
 have Ny230 := Aside0.mk hy230
 clear hy230
 have H' := Aside0.mk H
 clear H
 go_enter Try.func9, Try.ntmps9
 go_wp2_with (first | ((with_reducible refine gate_dst (N := 6) rfl ?_); refine Kd.R_lit Kd.string _ 9 ?hg (N := 6) ?hd (xs := ([(⟨#[97, 112, 112, 61, 97]⟩ : ByteArray), (⟨#[108, 118, 108, 61, 98]⟩ : ByteArray), (⟨#[110, 61, 55]⟩ : ByteArray), (⟨#[100, 117, 114, 61, 53, 109]⟩ : ByteArray), (⟨#[32]⟩ : ByteArray), (⟨#[61]⟩ : ByteArray), (⟨#[34]⟩ : ByteArray), (⟨#[97]⟩ : ByteArray), (⟨#[120, 61, 34, 113, 32, 114, 34]⟩ : ByteArray), (⟨#[120, 61, 34]⟩ : ByteArray), (⟨#[57, 61, 49]⟩ : ByteArray), (⟨#[95, 98, 61]⟩ : ByteArray), (⟨#[9]⟩ : ByteArray), (⟨#[92]⟩ : ByteArray), (⟨#[115, 105, 122, 101, 61, 50, 75, 66]⟩ : ByteArray), (⟨#[110, 61, 56]⟩ : ByteArray), (⟨#[61, 61]⟩ : ByteArray)] : List ByteArray)) (inner := [.string (⟨#[97, 112, 112, 61, 97]⟩ : ByteArray), .string (⟨#[108, 118, 108, 61, 98]⟩ : ByteArray), .string (⟨#[110, 61, 55]⟩ : ByteArray), .string (⟨#[100, 117, 114, 61, 53, 109]⟩ : ByteArray), .string (⟨#[32]⟩ : ByteArray), .string (⟨#[61]⟩ : ByteArray), .string (⟨#[34]⟩ : ByteArray), .string (⟨#[97]⟩ : ByteArray), .string (⟨#[120, 61, 34, 113, 32, 114, 34]⟩ : ByteArray), .string (⟨#[120, 61, 34]⟩ : ByteArray), .string (⟨#[57, 61, 49]⟩ : ByteArray), .string (⟨#[95, 98, 61]⟩ : ByteArray), .string (⟨#[9]⟩ : ByteArray), .string (⟨#[92]⟩ : ByteArray), .string (⟨#[115, 105, 122, 101, 61, 50, 75, 66]⟩ : ByteArray), .string (⟨#[110, 61, 56]⟩ : ByteArray), .string (⟨#[61, 61]⟩ : ByteArray)]) (ok := fun _ => True) (okp := fun _ => True) ?hr ?hp (fun _ hk => hk) trivial (Below.refl _ _) (Nat.le_refl _) (by simp) ?_; (case hd => rfl); (case hg => rfl); (case hr => first | (go_simp; done) | (go_simp; rfl)); (case hp => exact (Reps.one (show Kd.M Kd.string _ _ _ (⟨#[97, 112, 112, 61, 97]⟩ : ByteArray) [.string (⟨#[97, 112, 112, 61, 97]⟩ : ByteArray)] from rfl) (Reps.one (show Kd.M Kd.string _ _ _ (⟨#[108, 118, 108, 61, 98]⟩ : ByteArray) [.string (⟨#[108, 118, 108, 61, 98]⟩ : ByteArray)] from rfl) (Reps.one (show Kd.M Kd.string _ _ _ (⟨#[110, 61, 55]⟩ : ByteArray) [.string (⟨#[110, 61, 55]⟩ : ByteArray)] from rfl) (Reps.one (show Kd.M Kd.string _ _ _ (⟨#[100, 117, 114, 61, 53, 109]⟩ : ByteArray) [.string (⟨#[100, 117, 114, 61, 53, 109]⟩ : ByteArray)] from rfl) (Reps.one (show Kd.M Kd.string _ _ _ (⟨#[32]⟩ : ByteArray) [.string (⟨#[32]⟩ : ByteArray)] from rfl) (Reps.one (show Kd.M Kd.string _ _ _ (⟨#[61]⟩ : ByteArray) [.string (⟨#[61]⟩ : ByteArray)] from rfl) (Reps.one (show Kd.M Kd.string _ _ _ (⟨#[34]⟩ : ByteArray) [.string (⟨#[34]⟩ : ByteArray)] from rfl) (Reps.one (show Kd.M Kd.string _ _ _ (⟨#[97]⟩ : ByteArray) [.string (⟨#[97]⟩ : ByteArray)] from rfl) (Reps.one (show Kd.M Kd.string _ _ _ (⟨#[120, 61, 34, 113, 32, 114, 34]⟩ : ByteArray) [.string (⟨#[120, 61, 34, 113, 32, 114, 34]⟩ : ByteArray)] from rfl) (Reps.one (show Kd.M Kd.string _ _ _ (⟨#[120, 61, 34]⟩ : ByteArray) [.string (⟨#[120, 61, 34]⟩ : ByteArray)] from rfl) (Reps.one (show Kd.M Kd.string _ _ _ (⟨#[57, 61, 49]⟩ : ByteArray) [.string (⟨#[57, 61, 49]⟩ : ByteArray)] from rfl) (Reps.one (show Kd.M Kd.string _ _ _ (⟨#[95, 98, 61]⟩ : ByteArray) [.string (⟨#[95, 98, 61]⟩ : ByteArray)] from rfl) (Reps.one (show Kd.M Kd.string _ _ _ (⟨#[9]⟩ : ByteArray) [.string (⟨#[9]⟩ : ByteArray)] from rfl) (Reps.one (show Kd.M Kd.string _ _ _ (⟨#[92]⟩ : ByteArray) [.string (⟨#[92]⟩ : ByteArray)] from rfl) (Reps.one (show Kd.M Kd.string _ _ _ (⟨#[115, 105, 122, 101, 61, 50, 75, 66]⟩ : ByteArray) [.string (⟨#[115, 105, 122, 101, 61, 50, 75, 66]⟩ : ByteArray)] from rfl) (Reps.one (show Kd.M Kd.string _ _ _ (⟨#[110, 61, 56]⟩ : ByteArray) [.string (⟨#[110, 61, 56]⟩ : ByteArray)] from rfl) (Reps.one (show Kd.M Kd.string _ _ _ (⟨#[61, 61]⟩ : ByteArray) [.string (⟨#[61, 61]⟩ : ByteArray)] from rfl) (Reps.none _ _))))))))))))))))))); intro v231 w2 ho3 hb hg_ hnew_; clear hg_ hnew_; (first | rw [← Ny230.out] at ho3 | (simp only [Int.reduceToNat] at ho3; rw [← Ny230.out] at ho3)); have n0_ := Aside0.mk (Kd.R_lower ho3 (below_size bl)); have n1_ := Aside0.mk (below_step bl hb); clear HB; have HO232 := n0_; have HB := n1_; clear n0_ n1_; clear hb ho3))
 go_loopg [4, 5] k (fun kq v4 v5 w' => ∃ (x4_1 : ByteArray) (x5_1 : Int), v4 = .string x4_1 ∧ v5 = .int .i64 x5_1 ∧ Aside0 (archivistlaw10_line.l0 kq l0 y230 x4_1 x5_1 = some r) ∧ Aside0 (kq ≤ k) ∧ Aside0 (Kd.R Kd.string 9 w' w.heap.size (fun _ => True) v231 y230) ∧ Aside0 (Below w.heap.size w w'))
 case atStart => exact ⟨((⟨#[]⟩ : ByteArray)), (0), rs, rs, H', ⟨Nat.le_refl _⟩, ⟨rz HO232.out⟩, ⟨bl⟩⟩
 case round =>
  clear H'
  try clear p2
  obtain ⟨x4_1, x5_1, rfl, rfl, HA, HK1, HO_3, HB⟩ := hrel
  cases gk with
  | zero => exact absurd HA.out (by simp [archivistlaw10_line.l0])
  | succ k1 =>
   have H := HA.out
   clear HA
   simp only [archivistlaw10_line.l0] at H
   have HC4 := Aside0.mk H
   clear H
   go_upto_region 4 with (fail)
   go_cut [14] (fun v14 wc => ∃ (kq : Nat) (x14_3 : Bool), v14 = .bool x14_3 ∧ Aside0 (archivistlaw10_line.j1 kq l0 y230 x4_1 x5_1 x14_3 = some r) ∧ Aside0 (kq ≤ k1) ∧ Aside0 (Kd.R Kd.string 9 wc w.heap.size (fun _ => True) v231 y230) ∧ Aside0 (Below w.heap.size w wc))
   case first =>
    have H := HC4.out
    clear HC4
    by_cases c5 : x5_1 < (l0.length : Int)
    ·rw [if_pos c5] at H
     have c5b0 := decide_eq_true c5
     clear c5
     (first | rw [c5b0] | (simp only [i64_w, i32_w]; rw [c5b0]) | skip)
     have H' := Aside0.mk H
     clear H
     go_wp2
     go_meet
     case rel => exact ⟨_, (decide (x5_1 < 40)), rs, H', ⟨by have := HK1.out; first | omega | exact Nat.le_refl _⟩, ⟨rz HO_3.out⟩, ⟨bl⟩⟩
    ·rw [if_neg c5] at H
     have c5b0 : decide (x5_1 < (l0.length : Int)) = false := decide_eq_false c5
     clear c5
     (first | rw [c5b0] | (simp only [i64_w, i32_w]; rw [c5b0]) | skip)
     have H' := Aside0.mk H
     clear H
     go_wp2
     go_meet
     case rel => exact ⟨_, (false), rs, H', ⟨by have := HK1.out; first | omega | exact Nat.le_refl _⟩, ⟨rz HO_3.out⟩, ⟨bl⟩⟩
   case rest =>
    clear HC4
    try clear p2
    try clear c5
    try clear c5b0
    try clear p2
    obtain ⟨kq, x14_3, rfl, HA, HJ3, HO_3, HB⟩ := hcut
    cases kq with
    | zero => exact absurd HA.out (by simp [archivistlaw10_line.j1])
    | succ kj3 =>
     have H := HA.out
     clear HA
     simp only [archivistlaw10_line.j1] at H
     by_cases c6 : x14_3 = true
     ·subst c6
      have H1 : (if 0 ≤ x5_1 then (if x5_1 < (l0.length : Int) then (if 0 ≤ (Int.tmod (rd l0 x5_1) 17) then (if (Int.tmod (rd l0 x5_1) 17) < (y230.length : Int) then (if x4_1.size + (rdOf ByteArray.empty y230 (Int.tmod (rd l0 x5_1) 17)).size ≤ 9223372036854775807 then (if (rd l0 x5_1) < 170 then (if (x4_1 ++ (rdOf ByteArray.empty y230 (Int.tmod (rd l0 x5_1) 17))).size + 1 ≤ 9223372036854775807 then (archivistlaw10_line.l0 kj3 l0 y230 ((x4_1 ++ (rdOf ByteArray.empty y230 (Int.tmod (rd l0 x5_1) 17))) ++ (⟨#[32]⟩ : ByteArray)) (wrap64 (x5_1 + 1))) else (none)) else (archivistlaw10_line.l0 kj3 l0 y230 (x4_1 ++ (rdOf ByteArray.empty y230 (Int.tmod (rd l0 x5_1) 17))) (wrap64 (x5_1 + 1)))) else (none)) else (none)) else (none)) else (none)) else (none)) = some r := by rw [if_pos rfl] at H; exact H
      clear H
      have H := H1
      clear H1
      by_cases c7 : 0 ≤ x5_1
      ·rw [if_pos c7] at H
       have c7b0 := decide_eq_true c7
       clear c7
       by_cases c8 : x5_1 < (l0.length : Int)
       ·rw [if_pos c8] at H
        have c8b0 := decide_eq_true c8
        clear c8
        obtain ⟨ji9, hji9⟩ : ∃ j_ : Int, (Int.tmod (rd l0 x5_1) 17) = j_ := ⟨_, rfl⟩
        replace H : (if 0 ≤ (ji9) then (if (ji9) < (y230.length : Int) then (if x4_1.size + (rdOf ByteArray.empty y230 (ji9)).size ≤ 9223372036854775807 then (if (rd l0 x5_1) < 170 then (if (x4_1 ++ (rdOf ByteArray.empty y230 (ji9))).size + 1 ≤ 9223372036854775807 then (archivistlaw10_line.l0 kj3 l0 y230 ((x4_1 ++ (rdOf ByteArray.empty y230 (ji9))) ++ (⟨#[32]⟩ : ByteArray)) (wrap64 (x5_1 + 1))) else (none)) else (archivistlaw10_line.l0 kj3 l0 y230 (x4_1 ++ (rdOf ByteArray.empty y230 (ji9))) (wrap64 (x5_1 + 1)))) else (none)) else (none)) else (none)) = some r := by first | (rw [hji9] at H; exact H) | (simp only [hji9] at H ⊢; exact H)
        by_cases c10 : 0 ≤ (ji9)
        ·rw [if_pos c10] at H
         have c10b0 := decide_eq_true c10
         clear c10
         by_cases c11 : (ji9) < (y230.length : Int)
         ·rw [if_pos c11] at H
          have c11b0 := decide_eq_true c11
          clear c11
          by_cases c12 : x4_1.size + (rdOf ByteArray.empty y230 (ji9)).size ≤ 9223372036854775807
          ·rw [if_pos c12] at H
           have c12b0 := eq_true c12
           have c12b1 : decide (x4_1.size + (rdOf ByteArray.empty y230 (ji9)).size ≤ 9223372036854775807) = true := decide_eq_true c12
           try have c12b2 : (9223372036854775807 < x4_1.size + (rdOf ByteArray.empty y230 (ji9)).size) = False := eq_false (Nat.not_lt.2 c12)
           by_cases c13 : (rd l0 x5_1) < 170
           ·rw [if_pos c13] at H
            have c13b0 := decide_eq_true c13
            clear c13
            by_cases c14 : (x4_1 ++ (rdOf ByteArray.empty y230 (ji9))).size + 1 ≤ 9223372036854775807
            ·rw [if_pos c14] at H
             have c14b0 := eq_true c14
             have c14b1 : decide ((x4_1 ++ (rdOf ByteArray.empty y230 (ji9))).size + 1 ≤ 9223372036854775807) = true := decide_eq_true c14
             try have c14b2 : (9223372036854775807 < (x4_1 ++ (rdOf ByteArray.empty y230 (ji9))).size + 1) = False := eq_false (Nat.not_lt.2 c14)
             try (have c14b3 : (9223372036854775807 < (x4_1 ++ (rdOf ByteArray.empty y230 (ji9))).size + 1) = False := eq_false (Nat.not_lt.2 c14); simp only [ByteArray.size_append, Nat.add_zero, Nat.zero_add] at c14b3)
             have H' := Aside0.mk H
             clear H
             have p233 : 0 ≤ (x5_1 : Int) := od
             have q233 : x5_1 < (l0.length : Int) := od
             obtain ⟨ad233, e233, hx233_0⟩ := Kd.at_int HR0.out x5_1 p233 q233
             cases e233
             replace hx233_0 := cu HB.out hx233_0
             replace p233 := eq_true p233
             replace q233 := eq_true q233
             obtain ⟨Ao15, co15, eo15⟩ := Kd.R_slice HO_3.out
             subst eo15
             have p234 : 0 ≤ ((ji9) : Int) := od
             have q234 : (ji9) < (y230.length : Int) := od
             obtain ⟨ad234, e234, hx234_0⟩ := Kd.at_string (Kd.R_reads' HO_3.out).2.2 (ji9) p234 q234
             cases e234
             replace p234 := eq_true p234
             replace q234 := eq_true q234
             have p235 : 0 ≤ (x5_1 : Int) := od
             have q235 : x5_1 < (l0.length : Int) := od
             obtain ⟨ad235, e235, hx235_0⟩ := Kd.at_int HR0.out x5_1 p235 q235
             obtain rfl : ad233 = ad235 := (by injection e235)
             replace hx235_0 := cu HB.out hx235_0
             replace p235 := eq_true p235
             replace q235 := eq_true q235
             go_wp2
             go_roundg kj3
             case measure => have := HK1.out; have := HJ3.out; omega
             case rel => exact ⟨((x4_1 ++ (rdOf ByteArray.empty y230 (ji9))) ++ (⟨#[32]⟩ : ByteArray)), (wrap64 (x5_1 + 1)), (by first | rfl | (simp; done) | (simp only [← hji9] <;> (first | rfl | simp)) | (simp [*]; done)), rs, H', ⟨by have := HK1.out; have := HJ3.out; omega⟩, ⟨rz HO_3.out⟩, ⟨bl⟩⟩
            ·rw [if_neg c14] at H
             exact absurd H (by simp)
           ·rw [if_neg c13] at H
            have c13b0 : decide ((rd l0 x5_1) < 170) = false := decide_eq_false c13
            clear c13
            have H' := Aside0.mk H
            clear H
            have p233 : 0 ≤ (x5_1 : Int) := od
            have q233 : x5_1 < (l0.length : Int) := od
            obtain ⟨ad233, e233, hx233_0⟩ := Kd.at_int HR0.out x5_1 p233 q233
            cases e233
            replace hx233_0 := cu HB.out hx233_0
            replace p233 := eq_true p233
            replace q233 := eq_true q233
            obtain ⟨Ao16, co16, eo16⟩ := Kd.R_slice HO_3.out
            subst eo16
            have p234 : 0 ≤ ((ji9) : Int) := od
            have q234 : (ji9) < (y230.length : Int) := od
            obtain ⟨ad234, e234, hx234_0⟩ := Kd.at_string (Kd.R_reads' HO_3.out).2.2 (ji9) p234 q234
            cases e234
            replace p234 := eq_true p234
            replace q234 := eq_true q234
            have p235 : 0 ≤ (x5_1 : Int) := od
            have q235 : x5_1 < (l0.length : Int) := od
            obtain ⟨ad235, e235, hx235_0⟩ := Kd.at_int HR0.out x5_1 p235 q235
            obtain rfl : ad233 = ad235 := (by injection e235)
            replace hx235_0 := cu HB.out hx235_0
            replace p235 := eq_true p235
            replace q235 := eq_true q235
            go_wp2
            go_roundg kj3
            case measure => have := HK1.out; have := HJ3.out; omega
            case rel => exact ⟨(x4_1 ++ (rdOf ByteArray.empty y230 (ji9))), (wrap64 (x5_1 + 1)), (by first | rfl | (simp; done) | (simp only [← hji9] <;> (first | rfl | simp)) | (simp [*]; done)), rs, H', ⟨by have := HK1.out; have := HJ3.out; omega⟩, ⟨rz HO_3.out⟩, ⟨bl⟩⟩
          ·rw [if_neg c12] at H
           exact absurd H (by simp)
         ·rw [if_neg c11] at H
          exact absurd H (by simp)
        ·rw [if_neg c10] at H
         exact absurd H (by simp)
       ·rw [if_neg c8] at H
        exact absurd H (by simp)
      ·rw [if_neg c7] at H
       exact absurd H (by simp)
     ·replace c6 := Bool.eq_false_iff.mpr c6
      subst c6
      have H1 : (some x4_1) = some r := by rw [if_neg (show ¬ (false = true) by decide)] at H; exact H
      clear H
      have H := H1
      clear H1
      obtain rfl := Option.some.inj H
      go_wp2
      go_ret
      exact ⟨by first | rfl | (simp [errW_none, errW_some] <;> rfl) | (simp [*, errW_none, errW_some] <;> rfl), bl⟩

/-! ### archivistlaw10_Tag_tag: function 19 -/
def archivistlaw10_Tag_tag.f (a0_0 : ByteArray) (a0_1 : ByteArray) (a0_2 : Bool) (a0_3 : Int) : Option (ByteArray × ByteArray) := if a0_2 = true then ((some (([(⟨#[97, 112, 112]⟩ : ByteArray), (⟨#[101, 110, 118]⟩ : ByteArray), (⟨#[108, 118, 108]⟩ : ByteArray), (⟨#[100, 117, 114]⟩ : ByteArray), (⟨#[110]⟩ : ByteArray)] : List ByteArray) : List ByteArray)).bind fun y238 => (if 0 ≤ (Int.tmod a0_3 5) then (if (Int.tmod a0_3 5) < (y238.length : Int) then ((some (([(⟨#[97]⟩ : ByteArray), (⟨#[98]⟩ : ByteArray), (⟨#[120, 49]⟩ : ByteArray), (⟨#[53, 109]⟩ : ByteArray), (⟨#[55]⟩ : ByteArray), (⟨#[]⟩ : ByteArray), (⟨#[50, 75, 66]⟩ : ByteArray), (⟨#[97, 98]⟩ : ByteArray)] : List ByteArray) : List ByteArray)).bind fun y242 => (if 0 ≤ (((Int.tdiv a0_3 5) % 256) % 8) then (if (((Int.tdiv a0_3 5) % 256) % 8) < (y242.length : Int) then (some (rdOf ByteArray.empty y238 (Int.tmod a0_3 5), rdOf ByteArray.empty y242 (((Int.tdiv a0_3 5) % 256) % 8))) else (none)) else (none))) else (none)) else (none))) else (some (a0_0, a0_1))
def archivistlaw10_Tag_tag.T3 : Bool × List (List Nat × List Nat) := (true, [([], []), ([], []), ([1], [1]), ([2], [2]), ([0, 3], [0, 3]), ([4], [4]), ([], []), ([], []), ([7], [7]), ([8], [8]), ([9], [9]), ([6, 10], [6, 10]), ([11], [11]), ([5, 12], [5, 12]), ([13, 0, 1, 2, 3, 4, 5, 6, 7, 8, 9, 10, 11, 12, 13], [13])])
def archivistlaw10_Tag_tag.B3 : List Nat := [0, 0, 2, 6, 15, 31, 0, 0, 128, 384, 896, 1984, 4032, 8191, 16383]
theorem archivistlaw10_Tag_tag.tab3 : rtab .any (opsOf Try.f19 3) = archivistlaw10_Tag_tag.T3 := by kernel_rfl
theorem archivistlaw10_Tag_tag.bits3 : waitsOk archivistlaw10_Tag_tag.T3.2 archivistlaw10_Tag_tag.B3 = true := by kernel_rfl
set_option maxHeartbeats 8000000 in
set_option maxRecDepth 100000 in
theorem archivistlaw10_Tag_tag.calls (a0_0 : ByteArray) (a0_1 : ByteArray) (a0_2 : Bool) (a0_3 : Int) (r1 : ByteArray) (r2 : ByteArray) (w : World) (h : archivistlaw10_Tag_tag.f a0_0 a0_1 a0_2 a0_3 = some (r1, r2)) :
  Calls Try.prog 19 #[.agg #[.string a0_0, .string a0_1, .bool a0_2, .int .u8 a0_3]] w fun e w' => e = .returned (.agg #[.string r1, .string r2]) ∧ Below w.heap.size w w' := by
 have hu41 := Try.underlying41
 have hu39 := Try.underlying39
 have HB := Aside0.mk (Below.refl w.heap.size w)
 have H : (if a0_2 = true then ((some (([(⟨#[97, 112, 112]⟩ : ByteArray), (⟨#[101, 110, 118]⟩ : ByteArray), (⟨#[108, 118, 108]⟩ : ByteArray), (⟨#[100, 117, 114]⟩ : ByteArray), (⟨#[110]⟩ : ByteArray)] : List ByteArray) : List ByteArray)).bind fun y238 => (if 0 ≤ (Int.tmod a0_3 5) then (if (Int.tmod a0_3 5) < (y238.length : Int) then ((some (([(⟨#[97]⟩ : ByteArray), (⟨#[98]⟩ : ByteArray), (⟨#[120, 49]⟩ : ByteArray), (⟨#[53, 109]⟩ : ByteArray), (⟨#[55]⟩ : ByteArray), (⟨#[]⟩ : ByteArray), (⟨#[50, 75, 66]⟩ : ByteArray), (⟨#[97, 98]⟩ : ByteArray)] : List ByteArray) : List ByteArray)).bind fun y242 => (if 0 ≤ (((Int.tdiv a0_3 5) % 256) % 8) then (if (((Int.tdiv a0_3 5) % 256) % 8) < (y242.length : Int) then (some (rdOf ByteArray.empty y238 (Int.tmod a0_3 5), rdOf ByteArray.empty y242 (((Int.tdiv a0_3 5) % 256) % 8))) else (none)) else (none))) else (none)) else (none))) else (some (a0_0, a0_1))) = some (r1, r2) := h
 clear h
 by_cases c2 : a0_2 = true
 ·subst c2
  have H1 : ((some (([(⟨#[97, 112, 112]⟩ : ByteArray), (⟨#[101, 110, 118]⟩ : ByteArray), (⟨#[108, 118, 108]⟩ : ByteArray), (⟨#[100, 117, 114]⟩ : ByteArray), (⟨#[110]⟩ : ByteArray)] : List ByteArray) : List ByteArray)).bind fun y238 => (if 0 ≤ (Int.tmod a0_3 5) then (if (Int.tmod a0_3 5) < (y238.length : Int) then ((some (([(⟨#[97]⟩ : ByteArray), (⟨#[98]⟩ : ByteArray), (⟨#[120, 49]⟩ : ByteArray), (⟨#[53, 109]⟩ : ByteArray), (⟨#[55]⟩ : ByteArray), (⟨#[]⟩ : ByteArray), (⟨#[50, 75, 66]⟩ : ByteArray), (⟨#[97, 98]⟩ : ByteArray)] : List ByteArray) : List ByteArray)).bind fun y242 => (if 0 ≤ (((Int.tdiv a0_3 5) % 256) % 8) then (if (((Int.tdiv a0_3 5) % 256) % 8) < (y242.length : Int) then (some (rdOf ByteArray.empty y238 (Int.tmod a0_3 5), rdOf ByteArray.empty y242 (((Int.tdiv a0_3 5) % 256) % 8))) else (none)) else (none))) else (none)) else (none))) = some (r1, r2) := by rw [if_pos rfl] at H; exact H
  clear H
  have H := H1
  clear H1
  obtain ⟨y238, hy238⟩ : ∃ y_ : List ByteArray, y_ = (([(⟨#[97, 112, 112]⟩ : ByteArray), (⟨#[101, 110, 118]⟩ : ByteArray), (⟨#[108, 118, 108]⟩ : ByteArray), (⟨#[100, 117, 114]⟩ : ByteArray), (⟨#[110]⟩ : ByteArray)] : List ByteArray)) := ⟨_, rfl⟩
  replace H : (if 0 ≤ (Int.tmod a0_3 5) then (if (Int.tmod a0_3 5) < (y238.length : Int) then ((some (([(⟨#[97]⟩ : ByteArray), (⟨#[98]⟩ : ByteArray), (⟨#[120, 49]⟩ : ByteArray), (⟨#[53, 109]⟩ : ByteArray), (⟨#[55]⟩ : ByteArray), (⟨#[]⟩ : ByteArray), (⟨#[50, 75, 66]⟩ : ByteArray), (⟨#[97, 98]⟩ : ByteArray)] : List ByteArray) : List ByteArray)).bind fun y242 => (if 0 ≤ (((Int.tdiv a0_3 5) % 256) % 8) then (if (((Int.tdiv a0_3 5) % 256) % 8) < (y242.length : Int) then (some (rdOf ByteArray.empty y238 (Int.tmod a0_3 5), rdOf ByteArray.empty y242 (((Int.tdiv a0_3 5) % 256) % 8))) else (none)) else (none))) else (none)) else (none)) = some (r1, r2) := by first | (rw [hy238]; with_reducible exact H) | (have H2_ := (Option.bind_some _ _).symm.trans H; rw [hy238]; with_reducible exact H2_) | (have H2_ := (Option.bind_some _ _).symm.trans H; with_reducible exact H2_) | with_reducible exact H | (rw [hy238]; exact H) | exact H
  have Ny238 := Aside0.mk hy238
  clear hy238
  obtain ⟨ji3, hji3⟩ : ∃ j_ : Int, (Int.tmod a0_3 5) = j_ := ⟨_, rfl⟩
  replace H : (if 0 ≤ (ji3) then (if (ji3) < (y238.length : Int) then ((some (([(⟨#[97]⟩ : ByteArray), (⟨#[98]⟩ : ByteArray), (⟨#[120, 49]⟩ : ByteArray), (⟨#[53, 109]⟩ : ByteArray), (⟨#[55]⟩ : ByteArray), (⟨#[]⟩ : ByteArray), (⟨#[50, 75, 66]⟩ : ByteArray), (⟨#[97, 98]⟩ : ByteArray)] : List ByteArray) : List ByteArray)).bind fun y242 => (if 0 ≤ (((Int.tdiv a0_3 5) % 256) % 8) then (if (((Int.tdiv a0_3 5) % 256) % 8) < (y242.length : Int) then (some (rdOf ByteArray.empty y238 (ji3), rdOf ByteArray.empty y242 (((Int.tdiv a0_3 5) % 256) % 8))) else (none)) else (none))) else (none)) else (none)) = some (r1, r2) := by first | (rw [hji3] at H; exact H) | (simp only [hji3] at H ⊢; exact H)
  by_cases c4 : 0 ≤ (ji3)
  ·rw [if_pos c4] at H
   have c4b0 := decide_eq_true c4
   clear c4
   by_cases c5 : (ji3) < (y238.length : Int)
   ·rw [if_pos c5] at H
    have c5b0 := decide_eq_true c5
    clear c5
    obtain ⟨y242, hy242⟩ : ∃ y_ : List ByteArray, y_ = (([(⟨#[97]⟩ : ByteArray), (⟨#[98]⟩ : ByteArray), (⟨#[120, 49]⟩ : ByteArray), (⟨#[53, 109]⟩ : ByteArray), (⟨#[55]⟩ : ByteArray), (⟨#[]⟩ : ByteArray), (⟨#[50, 75, 66]⟩ : ByteArray), (⟨#[97, 98]⟩ : ByteArray)] : List ByteArray)) := ⟨_, rfl⟩
    replace H : (if 0 ≤ (((Int.tdiv a0_3 5) % 256) % 8) then (if (((Int.tdiv a0_3 5) % 256) % 8) < (y242.length : Int) then (some (rdOf ByteArray.empty y238 (ji3), rdOf ByteArray.empty y242 (((Int.tdiv a0_3 5) % 256) % 8))) else (none)) else (none)) = some (r1, r2) := by first | (rw [hy242]; with_reducible exact H) | (have H2_ := (Option.bind_some _ _).symm.trans H; rw [hy242]; with_reducible exact H2_) | (have H2_ := (Option.bind_some _ _).symm.trans H; with_reducible exact H2_) | with_reducible exact H | (rw [hy242]; exact H) | exact H
    have Ny242 := Aside0.mk hy242
    clear hy242
    obtain ⟨ji6, hji6⟩ : ∃ j_ : Int, (((Int.tdiv a0_3 5) % 256) % 8) = j_ := ⟨_, rfl⟩
    have hw_hji6 : Int.tmod ((Int.tdiv a0_3 5) % 256) 8 = ji6 := by rw [← hji6]; exact Int.tmod_eq_emod_of_nonneg (Int.emod_nonneg _ (by decide))
    replace H : (if 0 ≤ (ji6) then (if (ji6) < (y242.length : Int) then (some (rdOf ByteArray.empty y238 (ji3), rdOf ByteArray.empty y242 (ji6))) else (none)) else (none)) = some (r1, r2) := by first | (rw [hji6] at H; exact H) | (simp only [hji6] at H ⊢; exact H)
    by_cases c7 : 0 ≤ (ji6)
    ·rw [if_pos c7] at H
     have c7b0 := decide_eq_true c7
     clear c7
     by_cases c8 : (ji6) < (y242.length : Int)
     ·rw [if_pos c8] at H
      have c8b0 := decide_eq_true c8
      clear c8
      simp only [Option.some.injEq, Prod.mk.injEq] at H
      obtain ⟨rfl, rfl⟩ := H
      go_enter Try.func19, Try.ntmps19
      try go_wp2_with (first | ((with_reducible refine gate_dst (N := 1) rfl ?_); refine box_event ?hg (N := 1) ?hd (cs := #[.string a0_0, .string a0_1, .bool true, .int .u8 a0_3]) (t := 41) ?hr ?_; (case hd => rfl); (case hg => rfl); (case hr => first | (go_simp; done) | (go_simp; rfl)); intro gb236 hg w9 hbox hb; have n0_ := Aside0.mk (below_step bl hb); have n1_ := Aside0.mk (hbox); have n2_ := Aside0.mk ((by rw [hg]; exact (below_size bl) : w.heap.size ≤ gb236)); have n3_ := Aside0.mk ((by rw [hg]; exact (below_size bl) : w.heap.size ≤ gb236)); clear HB; have HB := n0_; have BK236 := n1_; have GW236 := n2_; have GE236 := n3_; clear n0_ n1_ n2_ n3_; clear hb hbox hg) | ((with_reducible refine gate_dst (N := 2) rfl ?_); refine box_event ?hg (N := 2) ?hd (cs := #[.string (⟨#[]⟩ : ByteArray), .string (⟨#[]⟩ : ByteArray)]) (t := 39) ?hr ?_; (case hd => rfl); (case hg => rfl); (case hr => first | (go_simp; done) | (go_simp; rfl)); intro gb237 hg w10 hbox hb; have n0_ := Aside0.mk (blk_below (g := gb236) (o := .cells #[.string a0_0, .string a0_1, .bool true, .int .u8 a0_3] 41 (0, 0)) (bz BK236.out) hb); have n1_ := Aside0.mk (below_step (by repeat (first | (with_reducible first | exact HB.out | apply below_alloc | apply pw_below_drewN | apply below_drew1 | refine below_set ?_ GE236.out) | exact HB.out)) hb); have n2_ := Aside0.mk (hbox); have n3_ := Aside0.mk ((by rw [hg]; exact (below_size (by repeat (first | (with_reducible first | exact HB.out | apply below_alloc | apply pw_below_drewN | apply below_drew1 | refine below_set ?_ GE236.out) | exact HB.out))) : w.heap.size ≤ gb237)); have n4_ := Aside0.mk ((by rw [hg]; exact (below_size (by repeat (first | (with_reducible first | exact HB.out | apply below_alloc | apply pw_below_drewN | apply below_drew1 | refine below_set ?_ GE236.out) | exact HB.out))) : w.heap.size ≤ gb237)); have n5_ := Aside0.mk ((by rw [hg]; exact Nat.ne_of_lt (blk_lt (g := gb236) (o := .cells #[.string a0_0, .string a0_1, .bool true, .int .u8 a0_3] 41 (0, 0)) (bz BK236.out)) : gb236 ≠ gb237)); have n6_ := Aside0.mk ((by rw [hg]; exact Nat.ne_of_gt (blk_lt (g := gb236) (o := .cells #[.string a0_0, .string a0_1, .bool true, .int .u8 a0_3] 41 (0, 0)) (bz BK236.out)) : gb237 ≠ gb236)); clear BK236; clear HB; have BK236 := n0_; have HB := n1_; have BK237 := n2_; have GW237 := n3_; have GE237 := n4_; have NB236_237 := n5_; have NB237_236 := n6_; clear n0_ n1_ n2_ n3_ n4_ n5_ n6_; clear hb hbox hg; have hnb11 := NB236_237.out; have hnc11 := NB237_236.out; have hcz12_0 : w10.cell? ⟨gb236, 0, none⟩ = some (.string a0_0) := (blk_cell BK236.out 0).trans rfl; have hcz12_1 : w10.cell? ⟨gb236, 1, none⟩ = some (.string a0_1) := (blk_cell BK236.out 1).trans rfl; have hcz12_2 : w10.cell? ⟨gb236, 2, none⟩ = some (.bool true) := (blk_cell BK236.out 2).trans rfl; have hcz12_3 : w10.cell? ⟨gb236, 3, none⟩ = some (.int .u8 a0_3) := (blk_cell BK236.out 3).trans rfl; have hfz12_0 := blk_frozen BK236.out 0; have hfz12_1 := blk_frozen BK236.out 1; have hfz12_2 := blk_frozen BK236.out 2; have hfz12_3 := blk_frozen BK236.out 3))
      have pi241 : (0 ≤ ((ji3) : Int)) = True := eq_true (od)
      have qi241 : ((ji3) < (y238.length : Int)) = True := eq_true (od)
      have pi245 : (0 ≤ ((ji6) : Int)) = True := eq_true (od)
      have qi245 : ((ji6) < (y242.length : Int)) = True := eq_true (od)
      have n0_ := Aside0.mk (blk_drew BK236.out)
      have n1_ := Aside0.mk (blk_drew BK237.out)
      have n2_ := Aside0.mk (below_drew1 HB.out)
      clear BK236
      clear BK237
      clear HB
      have BK236 := n0_
      have BK237 := n1_
      have HB := n2_
      clear n0_ n1_ n2_
      refine start_ (n := 15) (S := fun w' => True) (ds := []) #[N_,N_,N_,N_,N_,N_,N_,N_,N_,N_,N_,N_,N_,N_,N_] (by kernel_rfl) rfl rfl trivial (fun hHeld => ?_); refine with_tabW archivistlaw10_Tag_tag.tab3 archivistlaw10_Tag_tag.bits3 (fun HT_ HW_ => ?_)
      generalize w10.drew = w13 at BK236 BK237 HB hHeld ⊢
      refine pY 1 9 #[N_,J_,N_,N_,N_,N_,N_,N_,N_,N_,N_,N_,N_,N_,N_] HT_.out ?_
      refine pY 7 15 #[N_,J_,N_,N_,N_,N_,N_,J_,N_,N_,N_,N_,N_,N_,N_] HT_.out ?_
      refine inv_at [0, 2, 3, 4, 5, 6, 8, 9, 10, 11, 12, 13, 14] (fun a0_ b a w' => ∃ (v239 : Value) (adz_v239 : Addr) (v243 : Value) (adz_v243 : Addr) (m4_ : Value) (m11_ : Value), a = putSel a0_ b [(0, 8, v239), (2, 10, .int .u8 a0_3), (3, 11, .int .u8 ji3), (4, 12, m4_), (5, 13, .string (rdOf ByteArray.empty y238 (ji3))), (6, 14, v243), (8, 16, .int .u8 a0_3), (9, 17, .int .u8 ((Int.tdiv a0_3 5) % 256)), (10, 18, .int .u8 ji6), (11, 19, m11_), (12, 20, .string (rdOf ByteArray.empty y242 (ji6))), (13, 21, .agg #[.string (rdOf ByteArray.empty y238 (ji3)), .string (rdOf ByteArray.empty y242 (ji6))])] ∧ (w'.heap[gb236]? = some (.cells #[.string a0_0, .string a0_1, .bool true, .int .u8 a0_3] 41 (0, 0))) ∧ (b 14 = false → w'.heap[gb237]? = some (.cells #[.string (⟨#[]⟩ : ByteArray), .string (⟨#[]⟩ : ByteArray)] 39 (0, 0))) ∧ (Below w.heap.size w w') ∧ (b 0 = true → Kd.R Kd.string 9 w' w.heap.size (fun _ => True) v239 y238) ∧ (b 0 = true → ∃ c_, (v239 : Value) = .slice (some adz_v239) y238.length c_) ∧ (b 6 = true → Kd.R Kd.string 9 w' w.heap.size (fun _ => True) v243 y242) ∧ (b 6 = true → ∃ c_, (v243 : Value) = .slice (some adz_v243) y242.length c_) ∧ (b 14 = true → w'.heap[gb237]? = some (.cells #[.string (rdOf ByteArray.empty y238 (ji3)), .string (rdOf ByteArray.empty y242 (ji6))] 39 (0, 0))) ∧ (b 4 = true → (m4_ : Value) = .pointer (some (adz_v239.add ((ji3)).toNat))) ∧ (b 11 = true → (m11_ : Value) = .pointer (some (adz_v243.add ((ji6)).toNat)))) HT_.out HW_.out (by kernel_rfl) (by kernel_rfl) ?_ ?_ ?_
      ·exact ⟨.bool false, ⟨0, 0, none⟩, .bool false, ⟨0, 0, none⟩, .bool false, .bool false, by simp only [putSel, Bool.false_eq_true, if_false], BK236.out, fun _ => BK237.out, HB.out, fun h_ => absurd h_ (by decide), fun h_ => absurd h_ (by decide), fun h_ => absurd h_ (by decide), fun h_ => absurd h_ (by decide), fun h_ => absurd h_ (by decide), fun h_ => absurd h_ (by decide), fun h_ => absurd h_ (by decide)⟩
      ·skip
       clear BK236 BK237 HB
       refine steps_cons ?_ ?_
       ·rintro b a w' ⟨v239, adz_v239, v243, adz_v243, m4_, m11_, ha, Q_BK236, Q_BK237, Q_HB, Q_HO240, Q_HA_HO240, Q_HO244, Q_HA_HO244, Q_BK237_e14, Q_X4_, Q_X11_⟩ hb_ hon hoff
        refine ⟨_, rfl, fun K hK => ?_⟩
        replace ha := Aside0.mk ha
        have BK236 := Aside0.mk Q_BK236
        have BK237 := Aside0.mk (Q_BK237 (hoff 14 (by kernel_rfl)))
        have HB := Aside0.mk Q_HB
        refine Kd.R_lit_step Kd.string _ 9 ?hg (N := 8) ?hd (xs := ([(⟨#[97, 112, 112]⟩ : ByteArray), (⟨#[101, 110, 118]⟩ : ByteArray), (⟨#[108, 118, 108]⟩ : ByteArray), (⟨#[100, 117, 114]⟩ : ByteArray), (⟨#[110]⟩ : ByteArray)] : List ByteArray)) (inner := [.string (⟨#[97, 112, 112]⟩ : ByteArray), .string (⟨#[101, 110, 118]⟩ : ByteArray), .string (⟨#[108, 118, 108]⟩ : ByteArray), .string (⟨#[100, 117, 114]⟩ : ByteArray), .string (⟨#[110]⟩ : ByteArray)]) (ok := fun _ => True) (okp := fun _ => True) ?hr ?hp (fun _ hk => hk) trivial (Below.refl _ _) (Nat.le_refl _) (by simp) ?_; (case hd => rfl); (case hg => rfl); (case hr => first | (go_simp; done) | (go_simp; rfl)); (case hp => exact (Reps.one (show Kd.M Kd.string _ _ _ (⟨#[97, 112, 112]⟩ : ByteArray) [.string (⟨#[97, 112, 112]⟩ : ByteArray)] from rfl) (Reps.one (show Kd.M Kd.string _ _ _ (⟨#[101, 110, 118]⟩ : ByteArray) [.string (⟨#[101, 110, 118]⟩ : ByteArray)] from rfl) (Reps.one (show Kd.M Kd.string _ _ _ (⟨#[108, 118, 108]⟩ : ByteArray) [.string (⟨#[108, 118, 108]⟩ : ByteArray)] from rfl) (Reps.one (show Kd.M Kd.string _ _ _ (⟨#[100, 117, 114]⟩ : ByteArray) [.string (⟨#[100, 117, 114]⟩ : ByteArray)] from rfl) (Reps.one (show Kd.M Kd.string _ _ _ (⟨#[110]⟩ : ByteArray) [.string (⟨#[110]⟩ : ByteArray)] from rfl) (Reps.none _ _)))))))
        intro v239 w14 ho15 hb hg_ hnew_
        clear hg_ hnew_
        (first | rw [← Ny238.out] at ho15 | (simp only [Int.reduceToNat] at ho15; rw [← Ny238.out] at ho15))
        have n0_ := Aside0.mk (Kd.R_lower ho15 (below_size (by repeat (first | (with_reducible first | exact HB.out | apply below_alloc | apply pw_below_drewN | apply below_drew1 | refine below_set ?_ GE236.out | refine below_set ?_ GE237.out) | exact HB.out))))
        have n1_ := Aside0.mk (blk_below (g := gb236) (o := .cells #[.string a0_0, .string a0_1, .bool true, .int .u8 a0_3] 41 (0, 0)) (bz BK236.out) hb)
        have n2_ := Aside0.mk (blk_below (g := gb237) (o := .cells #[.string (⟨#[]⟩ : ByteArray), .string (⟨#[]⟩ : ByteArray)] 39 (0, 0)) (bz BK237.out) hb)
        have n3_ := Aside0.mk (below_step (by repeat (first | (with_reducible first | exact HB.out | apply below_alloc | apply pw_below_drewN | apply below_drew1 | refine below_set ?_ GE236.out | refine below_set ?_ GE237.out) | exact HB.out)) hb)
        have z_HO244 := fun (h0_ : b 6 = true) => (show Kd.R Kd.string 9 w14 w.heap.size (fun _ => True) v243 y242 from by first | exact (Kd.R_elder' (by (with_reducible repeat (first | apply Kd.R_alloc | apply Kd.R_drewN | apply Kd.R_drew)); exact (Q_HO244 h0_)) (Kd.R_base ho15) hb) | exact Kd.R_mono (Kd.R_elder' (by (with_reducible repeat (first | apply Kd.R_alloc | apply Kd.R_drewN | apply Kd.R_drew)); exact (Q_HO244 h0_)) (Kd.R_base ho15) hb) (fun _ h_ => by first | trivial | exact h_ | exact h_.1))
        clear BK236
        clear BK237
        clear HB
        have HO240 := n0_
        have BK236 := n1_
        have BK237 := n2_
        have HB := n3_
        clear n0_ n1_ n2_ n3_
        clear hb ho15
        obtain ⟨Ao16, co16, eo16⟩ := Kd.R_slice HO240.out
        subst eo16
        obtain ⟨ado16, fo16, _⟩ := Kd.at_string (Kd.R_reads' HO240.out).2.2 0 (by decide) (by rw [Ny238.out]; simp)
        cases fo16
        refine hK.out _ _ ⟨.slice (some ado16) y238.length co16, ado16, v243, adz_v243, m4_, m11_, (by rw [ha.out]; exact putSel_upk 0 hb_ rfl rfl rfl), (bz BK236.out), fun _ => (bz BK237.out), (by repeat (first | (with_reducible first | exact HB.out | apply below_alloc | apply pw_below_drewN | apply below_drew1 | refine below_set ?_ GE236.out | refine below_set ?_ GE237.out) | exact HB.out)), fun _ => (rz HO240.out), fun _ => ⟨_, rfl⟩, z_HO244, Q_HA_HO244, fun h0_ => absurd ((hoff 14 (by kernel_rfl)).symm.trans h0_) (by decide), fun h0_ => absurd ((hoff 4 (by kernel_rfl)).symm.trans h0_) (by decide), Q_X11_⟩
       refine steps_cons ?_ ?_
       ·rintro b a w' ⟨v239, adz_v239, v243, adz_v243, m4_, m11_, ha, Q_BK236, Q_BK237, Q_HB, Q_HO240, Q_HA_HO240, Q_HO244, Q_HA_HO244, Q_BK237_e14, Q_X4_, Q_X11_⟩ hb_ hon hoff
        refine ⟨_, rfl, fun K hK => ?_⟩
        have e9 : a.tmps[9]? = some (.pointer (some ⟨gb236, 3, none⟩)) := by rw [ha]; exact (putSel_off rfl).trans rfl
        replace ha := Aside0.mk ha
        have BK236 := Aside0.mk Q_BK236
        have BK237 := Aside0.mk (Q_BK237 (hoff 14 (by kernel_rfl)))
        have HB := Aside0.mk Q_HB
        have hc0_ : w'.cell? ⟨gb236, 0, none⟩ = some (.string a0_0) := (blk_cell BK236.out 0).trans rfl
        have hc1_ : w'.cell? ⟨gb236, 1, none⟩ = some (.string a0_1) := (blk_cell BK236.out 1).trans rfl
        have hc2_ : w'.cell? ⟨gb236, 2, none⟩ = some (.bool true) := (blk_cell BK236.out 2).trans rfl
        have hc3_ : w'.cell? ⟨gb236, 3, none⟩ = some (.int .u8 a0_3) := (blk_cell BK236.out 3).trans rfl
        refine value_ (w1 := w') (v := .int .u8 a0_3) (by rfl) rfl ?_ ?_
        ·go_simp
         (try simp only [i64_w])
         try rfl
        refine hK.out _ _ ⟨v239, adz_v239, v243, adz_v243, m4_, m11_, (by rw [ha.out]; exact putSel_upk 1 hb_ rfl rfl rfl), Q_BK236, Q_BK237, Q_HB, Q_HO240, Q_HA_HO240, Q_HO244, Q_HA_HO244, fun h0_ => absurd ((hoff 14 (by kernel_rfl)).symm.trans h0_) (by decide), fun h0_ => absurd ((hoff 4 (by kernel_rfl)).symm.trans h0_) (by decide), Q_X11_⟩
       refine steps_cons ?_ ?_
       ·rintro b a w' ⟨v239, adz_v239, v243, adz_v243, m4_, m11_, ha, Q_BK236, Q_BK237, Q_HB, Q_HO240, Q_HA_HO240, Q_HO244, Q_HA_HO244, Q_BK237_e14, Q_X4_, Q_X11_⟩ hb_ hon hoff
        refine ⟨_, rfl, fun K hK => ?_⟩
        have e10 : a.tmps[10]? = some (.int .u8 a0_3) := by rw [ha]; exact putSel_on (e := (2, 10, .int .u8 a0_3)) 1 rfl rfl (hon 2 (by kernel_rfl)) rfl
        replace ha := Aside0.mk ha
        have BK236 := Aside0.mk Q_BK236
        have BK237 := Aside0.mk (Q_BK237 (hoff 14 (by kernel_rfl)))
        have HB := Aside0.mk Q_HB
        refine value_ (w1 := w') (v := .int .u8 ji3) (by rfl) rfl ?_ ?_
        ·go_simp
         (try simp only [i64_w])
         try rfl
        refine hK.out _ _ ⟨v239, adz_v239, v243, adz_v243, m4_, m11_, (by rw [ha.out]; exact putSel_upk 2 hb_ rfl rfl rfl), Q_BK236, Q_BK237, Q_HB, Q_HO240, Q_HA_HO240, Q_HO244, Q_HA_HO244, fun h0_ => absurd ((hoff 14 (by kernel_rfl)).symm.trans h0_) (by decide), fun h0_ => absurd ((hoff 4 (by kernel_rfl)).symm.trans h0_) (by decide), Q_X11_⟩
       refine steps_cons ?_ ?_
       ·rintro b a w' ⟨v239, adz_v239, v243, adz_v243, m4_, m11_, ha, Q_BK236, Q_BK237, Q_HB, Q_HO240, Q_HA_HO240, Q_HO244, Q_HA_HO244, Q_BK237_e14, Q_X4_, Q_X11_⟩ hb_ hon hoff
        refine ⟨_, rfl, fun K hK => ?_⟩
        have e8 : a.tmps[8]? = some (v239) := by rw [ha]; exact putSel_on (e := (0, 8, v239)) 0 rfl rfl (hon 0 (by kernel_rfl)) rfl
        have e11 : a.tmps[11]? = some (.int .u8 ji3) := by rw [ha]; exact putSel_on (e := (3, 11, .int .u8 ji3)) 2 rfl rfl (hon 3 (by kernel_rfl)) rfl
        replace ha := Aside0.mk ha
        have BK236 := Aside0.mk Q_BK236
        have BK237 := Aside0.mk (Q_BK237 (hoff 14 (by kernel_rfl)))
        have HB := Aside0.mk Q_HB
        have HO240 := Aside0.mk (Q_HO240 (hon 0 (by kernel_rfl)))
        have HA_HO240 := Aside0.mk (Q_HA_HO240 (hon 0 (by kernel_rfl)))
        obtain ⟨c_, hv_⟩ := HA_HO240.out
        rw [hv_] at e8
        refine value_ (w1 := w') (v := .pointer (some (adz_v239.add ((ji3)).toNat))) (by rfl) rfl ?_ ?_
        ·go_simp
         (try simp only [i64_w])
         try rfl
        refine hK.out _ _ ⟨v239, adz_v239, v243, adz_v243, (.pointer (some (adz_v239.add ((ji3)).toNat))), m11_, (by rw [ha.out]; exact putSel_upk 3 hb_ rfl rfl rfl), Q_BK236, Q_BK237, Q_HB, Q_HO240, Q_HA_HO240, Q_HO244, Q_HA_HO244, fun h0_ => absurd ((hoff 14 (by kernel_rfl)).symm.trans h0_) (by decide), fun _ => rfl, Q_X11_⟩
       refine steps_cons ?_ ?_
       ·rintro b a w' ⟨v239, adz_v239, v243, adz_v243, m4_, m11_, ha, Q_BK236, Q_BK237, Q_HB, Q_HO240, Q_HA_HO240, Q_HO244, Q_HA_HO244, Q_BK237_e14, Q_X4_, Q_X11_⟩ hb_ hon hoff
        refine ⟨_, rfl, fun K hK => ?_⟩
        have e12 : a.tmps[12]? = some (m4_) := by rw [ha]; exact putSel_on (e := (4, 12, m4_)) 3 rfl rfl (hon 4 (by kernel_rfl)) rfl
        rw [Q_X4_ (hon 4 (by kernel_rfl))] at e12
        replace ha := Aside0.mk ha
        have BK236 := Aside0.mk Q_BK236
        have BK237 := Aside0.mk (Q_BK237 (hoff 14 (by kernel_rfl)))
        have HB := Aside0.mk Q_HB
        have HO240 := Aside0.mk (Q_HO240 (hon 0 (by kernel_rfl)))
        have HA_HO240 := Aside0.mk (Q_HA_HO240 (hon 0 (by kernel_rfl)))
        obtain ⟨c_, hv_⟩ := HA_HO240.out
        have hF_ := HO240.out
        rw [hv_] at hF_
        obtain ⟨ad_, ea_, hx_⟩ := Kd.at_string (Kd.R_reads' hF_).2.2 (ji3) (of_eq_true pi241) (of_eq_true qi241)
        cases ea_
        refine value_ (w1 := w') (v := .string (rdOf ByteArray.empty y238 (ji3))) (by rfl) rfl ?_ ?_
        ·go_simp
         (try simp only [i64_w])
         try rfl
        refine hK.out _ _ ⟨v239, adz_v239, v243, adz_v243, m4_, m11_, (by rw [ha.out]; exact putSel_upk 4 hb_ rfl rfl rfl), Q_BK236, Q_BK237, Q_HB, Q_HO240, Q_HA_HO240, Q_HO244, Q_HA_HO244, fun h0_ => absurd ((hoff 14 (by kernel_rfl)).symm.trans h0_) (by decide), Q_X4_, Q_X11_⟩
       refine steps_cons ?_ ?_
       ·rintro b a w' ⟨v239, adz_v239, v243, adz_v243, m4_, m11_, ha, Q_BK236, Q_BK237, Q_HB, Q_HO240, Q_HA_HO240, Q_HO244, Q_HA_HO244, Q_BK237_e14, Q_X4_, Q_X11_⟩ hb_ hon hoff
        refine ⟨_, rfl, fun K hK => ?_⟩
        replace ha := Aside0.mk ha
        have BK236 := Aside0.mk Q_BK236
        have BK237 := Aside0.mk (Q_BK237 (hoff 14 (by kernel_rfl)))
        have HB := Aside0.mk Q_HB
        refine Kd.R_lit_step Kd.string _ 9 ?hg (N := 14) ?hd (xs := ([(⟨#[97]⟩ : ByteArray), (⟨#[98]⟩ : ByteArray), (⟨#[120, 49]⟩ : ByteArray), (⟨#[53, 109]⟩ : ByteArray), (⟨#[55]⟩ : ByteArray), (⟨#[]⟩ : ByteArray), (⟨#[50, 75, 66]⟩ : ByteArray), (⟨#[97, 98]⟩ : ByteArray)] : List ByteArray)) (inner := [.string (⟨#[97]⟩ : ByteArray), .string (⟨#[98]⟩ : ByteArray), .string (⟨#[120, 49]⟩ : ByteArray), .string (⟨#[53, 109]⟩ : ByteArray), .string (⟨#[55]⟩ : ByteArray), .string (⟨#[]⟩ : ByteArray), .string (⟨#[50, 75, 66]⟩ : ByteArray), .string (⟨#[97, 98]⟩ : ByteArray)]) (ok := fun _ => True) (okp := fun _ => True) ?hr ?hp (fun _ hk => hk) trivial (Below.refl _ _) (Nat.le_refl _) (by simp) ?_; (case hd => rfl); (case hg => rfl); (case hr => first | (go_simp; done) | (go_simp; rfl)); (case hp => exact (Reps.one (show Kd.M Kd.string _ _ _ (⟨#[97]⟩ : ByteArray) [.string (⟨#[97]⟩ : ByteArray)] from rfl) (Reps.one (show Kd.M Kd.string _ _ _ (⟨#[98]⟩ : ByteArray) [.string (⟨#[98]⟩ : ByteArray)] from rfl) (Reps.one (show Kd.M Kd.string _ _ _ (⟨#[120, 49]⟩ : ByteArray) [.string (⟨#[120, 49]⟩ : ByteArray)] from rfl) (Reps.one (show Kd.M Kd.string _ _ _ (⟨#[53, 109]⟩ : ByteArray) [.string (⟨#[53, 109]⟩ : ByteArray)] from rfl) (Reps.one (show Kd.M Kd.string _ _ _ (⟨#[55]⟩ : ByteArray) [.string (⟨#[55]⟩ : ByteArray)] from rfl) (Reps.one (show Kd.M Kd.string _ _ _ (⟨#[]⟩ : ByteArray) [.string (⟨#[]⟩ : ByteArray)] from rfl) (Reps.one (show Kd.M Kd.string _ _ _ (⟨#[50, 75, 66]⟩ : ByteArray) [.string (⟨#[50, 75, 66]⟩ : ByteArray)] from rfl) (Reps.one (show Kd.M Kd.string _ _ _ (⟨#[97, 98]⟩ : ByteArray) [.string (⟨#[97, 98]⟩ : ByteArray)] from rfl) (Reps.none _ _))))))))))
        intro v243 w14 ho15 hb hg_ hnew_
        clear hg_ hnew_
        (first | rw [← Ny242.out] at ho15 | (simp only [Int.reduceToNat] at ho15; rw [← Ny242.out] at ho15))
        have n0_ := Aside0.mk (Kd.R_lower ho15 (below_size (by repeat (first | (with_reducible first | exact HB.out | apply below_alloc | apply pw_below_drewN | apply below_drew1 | refine below_set ?_ GE236.out | refine below_set ?_ GE237.out) | exact HB.out))))
        have n1_ := Aside0.mk (blk_below (g := gb236) (o := .cells #[.string a0_0, .string a0_1, .bool true, .int .u8 a0_3] 41 (0, 0)) (bz BK236.out) hb)
        have n2_ := Aside0.mk (blk_below (g := gb237) (o := .cells #[.string (⟨#[]⟩ : ByteArray), .string (⟨#[]⟩ : ByteArray)] 39 (0, 0)) (bz BK237.out) hb)
        have n3_ := Aside0.mk (below_step (by repeat (first | (with_reducible first | exact HB.out | apply below_alloc | apply pw_below_drewN | apply below_drew1 | refine below_set ?_ GE236.out | refine below_set ?_ GE237.out) | exact HB.out)) hb)
        have z_HO240 := fun (h0_ : b 0 = true) => (show Kd.R Kd.string 9 w14 w.heap.size (fun _ => True) v239 y238 from by first | exact (Kd.R_elder' (by (with_reducible repeat (first | apply Kd.R_alloc | apply Kd.R_drewN | apply Kd.R_drew)); exact (Q_HO240 h0_)) (Kd.R_base ho15) hb) | exact Kd.R_mono (Kd.R_elder' (by (with_reducible repeat (first | apply Kd.R_alloc | apply Kd.R_drewN | apply Kd.R_drew)); exact (Q_HO240 h0_)) (Kd.R_base ho15) hb) (fun _ h_ => by first | trivial | exact h_ | exact h_.1))
        clear BK236
        clear BK237
        clear HB
        have HO244 := n0_
        have BK236 := n1_
        have BK237 := n2_
        have HB := n3_
        clear n0_ n1_ n2_ n3_
        clear hb ho15
        obtain ⟨Ao16, co16, eo16⟩ := Kd.R_slice HO244.out
        subst eo16
        obtain ⟨ado16, fo16, _⟩ := Kd.at_string (Kd.R_reads' HO244.out).2.2 0 (by decide) (by rw [Ny242.out]; simp)
        cases fo16
        refine hK.out _ _ ⟨v239, adz_v239, .slice (some ado16) y242.length co16, ado16, m4_, m11_, (by rw [ha.out]; exact putSel_upk 5 hb_ rfl rfl rfl), (bz BK236.out), fun _ => (bz BK237.out), (by repeat (first | (with_reducible first | exact HB.out | apply below_alloc | apply pw_below_drewN | apply below_drew1 | refine below_set ?_ GE236.out | refine below_set ?_ GE237.out) | exact HB.out)), z_HO240, Q_HA_HO240, fun _ => (rz HO244.out), fun _ => ⟨_, rfl⟩, fun h0_ => absurd ((hoff 14 (by kernel_rfl)).symm.trans h0_) (by decide), Q_X4_, fun h0_ => absurd ((hoff 11 (by kernel_rfl)).symm.trans h0_) (by decide)⟩
       refine steps_cons ?_ ?_
       ·rintro b a w' ⟨v239, adz_v239, v243, adz_v243, m4_, m11_, ha, Q_BK236, Q_BK237, Q_HB, Q_HO240, Q_HA_HO240, Q_HO244, Q_HA_HO244, Q_BK237_e14, Q_X4_, Q_X11_⟩ hb_ hon hoff
        refine ⟨_, rfl, fun K hK => ?_⟩
        have e15 : a.tmps[15]? = some (.pointer (some ⟨gb236, 3, none⟩)) := by rw [ha]; exact (putSel_off rfl).trans rfl
        replace ha := Aside0.mk ha
        have BK236 := Aside0.mk Q_BK236
        have BK237 := Aside0.mk (Q_BK237 (hoff 14 (by kernel_rfl)))
        have HB := Aside0.mk Q_HB
        have hc0_ : w'.cell? ⟨gb236, 0, none⟩ = some (.string a0_0) := (blk_cell BK236.out 0).trans rfl
        have hc1_ : w'.cell? ⟨gb236, 1, none⟩ = some (.string a0_1) := (blk_cell BK236.out 1).trans rfl
        have hc2_ : w'.cell? ⟨gb236, 2, none⟩ = some (.bool true) := (blk_cell BK236.out 2).trans rfl
        have hc3_ : w'.cell? ⟨gb236, 3, none⟩ = some (.int .u8 a0_3) := (blk_cell BK236.out 3).trans rfl
        refine value_ (w1 := w') (v := .int .u8 a0_3) (by rfl) rfl ?_ ?_
        ·go_simp
         (try simp only [i64_w])
         try rfl
        refine hK.out _ _ ⟨v239, adz_v239, v243, adz_v243, m4_, m11_, (by rw [ha.out]; exact putSel_upk 6 hb_ rfl rfl rfl), Q_BK236, Q_BK237, Q_HB, Q_HO240, Q_HA_HO240, Q_HO244, Q_HA_HO244, fun h0_ => absurd ((hoff 14 (by kernel_rfl)).symm.trans h0_) (by decide), Q_X4_, fun h0_ => absurd ((hoff 11 (by kernel_rfl)).symm.trans h0_) (by decide)⟩
       refine steps_cons ?_ ?_
       ·rintro b a w' ⟨v239, adz_v239, v243, adz_v243, m4_, m11_, ha, Q_BK236, Q_BK237, Q_HB, Q_HO240, Q_HA_HO240, Q_HO244, Q_HA_HO244, Q_BK237_e14, Q_X4_, Q_X11_⟩ hb_ hon hoff
        refine ⟨_, rfl, fun K hK => ?_⟩
        have e16 : a.tmps[16]? = some (.int .u8 a0_3) := by rw [ha]; exact putSel_on (e := (8, 16, .int .u8 a0_3)) 6 rfl rfl (hon 8 (by kernel_rfl)) rfl
        replace ha := Aside0.mk ha
        have BK236 := Aside0.mk Q_BK236
        have BK237 := Aside0.mk (Q_BK237 (hoff 14 (by kernel_rfl)))
        have HB := Aside0.mk Q_HB
        refine value_ (w1 := w') (v := .int .u8 ((Int.tdiv a0_3 5) % 256)) (by rfl) rfl ?_ ?_
        ·go_simp
         (try simp only [i64_w])
         try rfl
        refine hK.out _ _ ⟨v239, adz_v239, v243, adz_v243, m4_, m11_, (by rw [ha.out]; exact putSel_upk 7 hb_ rfl rfl rfl), Q_BK236, Q_BK237, Q_HB, Q_HO240, Q_HA_HO240, Q_HO244, Q_HA_HO244, fun h0_ => absurd ((hoff 14 (by kernel_rfl)).symm.trans h0_) (by decide), Q_X4_, fun h0_ => absurd ((hoff 11 (by kernel_rfl)).symm.trans h0_) (by decide)⟩
       refine steps_cons ?_ ?_
       ·rintro b a w' ⟨v239, adz_v239, v243, adz_v243, m4_, m11_, ha, Q_BK236, Q_BK237, Q_HB, Q_HO240, Q_HA_HO240, Q_HO244, Q_HA_HO244, Q_BK237_e14, Q_X4_, Q_X11_⟩ hb_ hon hoff
        refine ⟨_, rfl, fun K hK => ?_⟩
        have e17 : a.tmps[17]? = some (.int .u8 ((Int.tdiv a0_3 5) % 256)) := by rw [ha]; exact putSel_on (e := (9, 17, .int .u8 ((Int.tdiv a0_3 5) % 256))) 7 rfl rfl (hon 9 (by kernel_rfl)) rfl
        replace ha := Aside0.mk ha
        have BK236 := Aside0.mk Q_BK236
        have BK237 := Aside0.mk (Q_BK237 (hoff 14 (by kernel_rfl)))
        have HB := Aside0.mk Q_HB
        refine value_ (w1 := w') (v := .int .u8 ji6) (by rfl) rfl ?_ ?_
        ·go_simp
         (try simp only [i64_w])
         try rfl
        refine hK.out _ _ ⟨v239, adz_v239, v243, adz_v243, m4_, m11_, (by rw [ha.out]; exact putSel_upk 8 hb_ rfl rfl rfl), Q_BK236, Q_BK237, Q_HB, Q_HO240, Q_HA_HO240, Q_HO244, Q_HA_HO244, fun h0_ => absurd ((hoff 14 (by kernel_rfl)).symm.trans h0_) (by decide), Q_X4_, fun h0_ => absurd ((hoff 11 (by kernel_rfl)).symm.trans h0_) (by decide)⟩
       refine steps_cons ?_ ?_
       ·rintro b a w' ⟨v239, adz_v239, v243, adz_v243, m4_, m11_, ha, Q_BK236, Q_BK237, Q_HB, Q_HO240, Q_HA_HO240, Q_HO244, Q_HA_HO244, Q_BK237_e14, Q_X4_, Q_X11_⟩ hb_ hon hoff
        refine ⟨_, rfl, fun K hK => ?_⟩
        have e14 : a.tmps[14]? = some (v243) := by rw [ha]; exact putSel_on (e := (6, 14, v243)) 5 rfl rfl (hon 6 (by kernel_rfl)) rfl
        have e18 : a.tmps[18]? = some (.int .u8 ji6) := by rw [ha]; exact putSel_on (e := (10, 18, .int .u8 ji6)) 8 rfl rfl (hon 10 (by kernel_rfl)) rfl
        replace ha := Aside0.mk ha
        have BK236 := Aside0.mk Q_BK236
        have BK237 := Aside0.mk (Q_BK237 (hoff 14 (by kernel_rfl)))
        have HB := Aside0.mk Q_HB
        have HO244 := Aside0.mk (Q_HO244 (hon 6 (by kernel_rfl)))
        have HA_HO244 := Aside0.mk (Q_HA_HO244 (hon 6 (by kernel_rfl)))
        obtain ⟨c_, hv_⟩ := HA_HO244.out
        rw [hv_] at e14
        refine value_ (w1 := w') (v := .pointer (some (adz_v243.add ((ji6)).toNat))) (by rfl) rfl ?_ ?_
        ·go_simp
         (try simp only [i64_w])
         try rfl
        refine hK.out _ _ ⟨v239, adz_v239, v243, adz_v243, m4_, (.pointer (some (adz_v243.add ((ji6)).toNat))), (by rw [ha.out]; exact putSel_upk 9 hb_ rfl rfl rfl), Q_BK236, Q_BK237, Q_HB, Q_HO240, Q_HA_HO240, Q_HO244, Q_HA_HO244, fun h0_ => absurd ((hoff 14 (by kernel_rfl)).symm.trans h0_) (by decide), Q_X4_, fun _ => rfl⟩
       refine steps_cons ?_ ?_
       ·rintro b a w' ⟨v239, adz_v239, v243, adz_v243, m4_, m11_, ha, Q_BK236, Q_BK237, Q_HB, Q_HO240, Q_HA_HO240, Q_HO244, Q_HA_HO244, Q_BK237_e14, Q_X4_, Q_X11_⟩ hb_ hon hoff
        refine ⟨_, rfl, fun K hK => ?_⟩
        have e19 : a.tmps[19]? = some (m11_) := by rw [ha]; exact putSel_on (e := (11, 19, m11_)) 9 rfl rfl (hon 11 (by kernel_rfl)) rfl
        rw [Q_X11_ (hon 11 (by kernel_rfl))] at e19
        replace ha := Aside0.mk ha
        have BK236 := Aside0.mk Q_BK236
        have BK237 := Aside0.mk (Q_BK237 (hoff 14 (by kernel_rfl)))
        have HB := Aside0.mk Q_HB
        have HO244 := Aside0.mk (Q_HO244 (hon 6 (by kernel_rfl)))
        have HA_HO244 := Aside0.mk (Q_HA_HO244 (hon 6 (by kernel_rfl)))
        obtain ⟨c_, hv_⟩ := HA_HO244.out
        have hF_ := HO244.out
        rw [hv_] at hF_
        obtain ⟨ad_, ea_, hx_⟩ := Kd.at_string (Kd.R_reads' hF_).2.2 (ji6) (of_eq_true pi245) (of_eq_true qi245)
        cases ea_
        refine value_ (w1 := w') (v := .string (rdOf ByteArray.empty y242 (ji6))) (by rfl) rfl ?_ ?_
        ·go_simp
         (try simp only [i64_w])
         try rfl
        refine hK.out _ _ ⟨v239, adz_v239, v243, adz_v243, m4_, m11_, (by rw [ha.out]; exact putSel_upk 10 hb_ rfl rfl rfl), Q_BK236, Q_BK237, Q_HB, Q_HO240, Q_HA_HO240, Q_HO244, Q_HA_HO244, fun h0_ => absurd ((hoff 14 (by kernel_rfl)).symm.trans h0_) (by decide), Q_X4_, Q_X11_⟩
       refine steps_cons ?_ ?_
       ·rintro b a w' ⟨v239, adz_v239, v243, adz_v243, m4_, m11_, ha, Q_BK236, Q_BK237, Q_HB, Q_HO240, Q_HA_HO240, Q_HO244, Q_HA_HO244, Q_BK237_e14, Q_X4_, Q_X11_⟩ hb_ hon hoff
        refine ⟨_, rfl, fun K hK => ?_⟩
        have e13 : a.tmps[13]? = some (.string (rdOf ByteArray.empty y238 (ji3))) := by rw [ha]; exact putSel_on (e := (5, 13, .string (rdOf ByteArray.empty y238 (ji3)))) 4 rfl rfl (hon 5 (by kernel_rfl)) rfl
        have e20 : a.tmps[20]? = some (.string (rdOf ByteArray.empty y242 (ji6))) := by rw [ha]; exact putSel_on (e := (12, 20, .string (rdOf ByteArray.empty y242 (ji6)))) 10 rfl rfl (hon 12 (by kernel_rfl)) rfl
        replace ha := Aside0.mk ha
        have BK236 := Aside0.mk Q_BK236
        have BK237 := Aside0.mk (Q_BK237 (hoff 14 (by kernel_rfl)))
        have HB := Aside0.mk Q_HB
        have HO240 := Aside0.mk (Q_HO240 (hon 0 (by kernel_rfl)))
        have HA_HO240 := Aside0.mk (Q_HA_HO240 (hon 0 (by kernel_rfl)))
        have HO244 := Aside0.mk (Q_HO244 (hon 6 (by kernel_rfl)))
        have HA_HO244 := Aside0.mk (Q_HA_HO244 (hon 6 (by kernel_rfl)))
        refine value_ (w1 := w') (v := .agg #[.string (rdOf ByteArray.empty y238 (ji3)), .string (rdOf ByteArray.empty y242 (ji6))]) (by rfl) rfl ?_ ?_
        ·go_simp
         (try simp only [i64_w])
         try rfl
        refine hK.out _ _ ⟨v239, adz_v239, v243, adz_v243, m4_, m11_, (by rw [ha.out]; exact putSel_upk 11 hb_ rfl rfl rfl), Q_BK236, Q_BK237, Q_HB, Q_HO240, Q_HA_HO240, Q_HO244, Q_HA_HO244, fun h0_ => absurd ((hoff 14 (by kernel_rfl)).symm.trans h0_) (by decide), Q_X4_, Q_X11_⟩
       refine steps_cons ?_ ?_
       ·rintro b a w' ⟨v239, adz_v239, v243, adz_v243, m4_, m11_, ha, Q_BK236, Q_BK237, Q_HB, Q_HO240, Q_HA_HO240, Q_HO244, Q_HA_HO244, Q_BK237_e14, Q_X4_, Q_X11_⟩ hb_ hon hoff
        refine ⟨_, rfl, fun K hK => ?_⟩
        have e2 : a.tmps[2]? = some (.pointer (some ⟨gb237, 0, none⟩)) := by rw [ha]; exact (putSel_off rfl).trans rfl
        have e21 : a.tmps[21]? = some (.agg #[.string (rdOf ByteArray.empty y238 (ji3)), .string (rdOf ByteArray.empty y242 (ji6))]) := by rw [ha]; exact putSel_on (e := (13, 21, .agg #[.string (rdOf ByteArray.empty y238 (ji3)), .string (rdOf ByteArray.empty y242 (ji6))])) 11 rfl rfl (hon 13 (by kernel_rfl)) rfl
        replace ha := Aside0.mk ha
        have BK236 := Aside0.mk Q_BK236
        have BK237 := Aside0.mk (Q_BK237 hb_)
        have HB := Aside0.mk Q_HB
        have HO240 := Aside0.mk (Q_HO240 (hon 0 (by kernel_rfl)))
        have HA_HO240 := Aside0.mk (Q_HA_HO240 (hon 0 (by kernel_rfl)))
        have HO244 := Aside0.mk (Q_HO244 (hon 6 (by kernel_rfl)))
        have HA_HO244 := Aside0.mk (Q_HA_HO244 (hon 6 (by kernel_rfl)))
        obtain ⟨co21, eo21⟩ := HA_HO240.out
        clear HA_HO240
        subst eo21
        obtain ⟨co22, eo22⟩ := HA_HO244.out
        clear HA_HO244
        subst eo22
        have hs23 : w'.cell? ⟨gb237, 0, none⟩ = some (.string (⟨#[]⟩ : ByteArray)) := (blk_cell BK237.out 0).trans rfl
        have hfs23 := blk_frozen BK237.out 0
        have hns23_0 := NB236_237.out
        have hms23_0 := NB237_236.out
        have hs24 : w'.cell? ⟨gb237, 1, none⟩ = some (.string (⟨#[]⟩ : ByteArray)) := (blk_cell BK237.out 1).trans rfl
        have hfs24 := blk_frozen BK237.out 1
        have hns24_0 := NB236_237.out
        have hms24_0 := NB237_236.out
        refine skip_ (w1 := ?_) (by rfl) rfl ?_ ?_
        rotate_left
        ·go_simp
         rfl
        refine hK.out _ _ ⟨.slice (some adz_v239) y238.length co21, adz_v239, .slice (some adz_v243) y242.length co22, adz_v243, m4_, m11_, (by rw [ha.out]; exact putSel_none (v := undef) rfl), (by (with_reducible repeat (first | refine blk_drewN ?_ _ | refine blk_drew ?_ | refine blk_alloc ?_ _)); refine blk_far ?_ NB236_237.out _; (with_reducible repeat (first | refine blk_drewN ?_ _ | refine blk_drew ?_ | refine blk_alloc ?_ _)); refine blk_far ?_ NB236_237.out _; (with_reducible repeat (first | refine blk_drewN ?_ _ | refine blk_drew ?_ | refine blk_alloc ?_ _)); exact BK236.out), fun h0_ => absurd ((up_self b 14).symm.trans h0_) (by decide), (by repeat (first | (with_reducible first | exact HB.out | apply below_alloc | apply pw_below_drewN | apply below_drew1 | refine below_set ?_ GE236.out | refine below_set ?_ GE237.out) | exact HB.out)), fun _ => (by (with_reducible repeat (first | apply Kd.R_alloc | apply Kd.R_drewN | apply Kd.R_drew)); exact Kd.R_mono (Kd.R_far (p := ⟨gb237, 1, none⟩) (Kd.R_far (p := ⟨gb237, 0, none⟩) (Kd.R_types HO240.out BK237.out (by decide)) (fun _ hk => hk.2) (.string (rdOf ByteArray.empty y238 (ji3)))) (fun _ hk => hk.2) (.string (rdOf ByteArray.empty y242 (ji6)))) (fun _ hk => hk.1)), fun _ => ⟨_, rfl⟩, fun _ => (by (with_reducible repeat (first | apply Kd.R_alloc | apply Kd.R_drewN | apply Kd.R_drew)); exact Kd.R_mono (Kd.R_far (p := ⟨gb237, 1, none⟩) (Kd.R_far (p := ⟨gb237, 0, none⟩) (Kd.R_types HO244.out BK237.out (by decide)) (fun _ hk => hk.2) (.string (rdOf ByteArray.empty y238 (ji3)))) (fun _ hk => hk.2) (.string (rdOf ByteArray.empty y242 (ji6)))) (fun _ hk => hk.1)), fun _ => ⟨_, rfl⟩, fun _ => (by (with_reducible repeat (first | refine blk_drewN ?_ _ | refine blk_drew ?_ | refine blk_alloc ?_ _)); refine blk_put (cs := #[.string (rdOf ByteArray.empty y238 (ji3)), .string (⟨#[]⟩ : ByteArray)]) ?_ 1 _ rfl; (with_reducible repeat (first | refine blk_drewN ?_ _ | refine blk_drew ?_ | refine blk_alloc ?_ _)); refine blk_put (cs := #[.string (⟨#[]⟩ : ByteArray), .string (⟨#[]⟩ : ByteArray)]) ?_ 0 _ rfl; (with_reducible repeat (first | refine blk_drewN ?_ _ | refine blk_drew ?_ | refine blk_alloc ?_ _)); exact BK237.out), Q_X4_, Q_X11_⟩
       exact steps_nil
      rintro b a w22 hall ⟨v239, adz_v239, v243, adz_v243, m4_, m11_, ha, Q_BK236, Q_BK237, Q_HB, Q_HO240, Q_HA_HO240, Q_HO244, Q_HA_HO244, Q_BK237_e14, Q_X4_, Q_X11_⟩
      clear BK236 BK237 HB
      have hb0_ := hall 0 (by kernel_rfl)
      have hb2_ := hall 2 (by kernel_rfl)
      have hb3_ := hall 3 (by kernel_rfl)
      have hb4_ := hall 4 (by kernel_rfl)
      have hb5_ := hall 5 (by kernel_rfl)
      have hb6_ := hall 6 (by kernel_rfl)
      have hb8_ := hall 8 (by kernel_rfl)
      have hb9_ := hall 9 (by kernel_rfl)
      have hb10_ := hall 10 (by kernel_rfl)
      have hb11_ := hall 11 (by kernel_rfl)
      have hb12_ := hall 12 (by kernel_rfl)
      have hb13_ := hall 13 (by kernel_rfl)
      have hb14_ := hall 14 (by kernel_rfl)
      subst ha
      obtain rfl := Q_X4_ hb4_
      obtain rfl := Q_X11_ hb11_
      simp only [putSel, hb0_, hb2_, hb3_, hb4_, hb5_, hb6_, hb8_, hb9_, hb10_, hb11_, hb12_, hb13_, hb14_, if_true, Act.put, List.setIfInBounds_toArray, List.set_cons_zero, List.set_cons_succ]
      have BK236 := Aside0.mk Q_BK236
      clear Q_BK236
      clear Q_BK237
      have HB := Aside0.mk Q_HB
      clear Q_HB
      have HO240 := Aside0.mk (Q_HO240 hb0_)
      clear Q_HO240
      have HA_HO240 := Aside0.mk (Q_HA_HO240 hb0_)
      clear Q_HA_HO240
      have HO244 := Aside0.mk (Q_HO244 hb6_)
      clear Q_HO244
      have HA_HO244 := Aside0.mk (Q_HA_HO244 hb6_)
      clear Q_HA_HO244
      have BK237 := Aside0.mk (Q_BK237_e14 hb14_)
      clear Q_BK237_e14
      clear hall hb0_ hb2_ hb3_ hb4_ hb5_ hb6_ hb8_ hb9_ hb10_ hb11_ hb12_ hb13_ hb14_
      obtain ⟨co23, eo23⟩ := HA_HO240.out
      clear HA_HO240
      subst eo23
      obtain ⟨co24, eo24⟩ := HA_HO244.out
      clear HA_HO244
      subst eo24
      try go_wp2
      refine bodyPost_ret (results_cell_row rfl _ _ gb237 39 #[.string (rdOf ByteArray.empty y238 (ji3)), .string (rdOf ByteArray.empty y242 (ji6))] (0, 0) _ rfl (bz BK237.out) Try.underlying39 rfl (by kernel_rfl)) rfl ?_
      exact ⟨by first | rfl | (simp [errW_none, errW_some] <;> rfl) | (simp only [← hji3, ← hji6]; first | rfl | (simp [errW_none, errW_some] <;> rfl)) | (simp [*, errW_none, errW_some] <;> rfl), by repeat (first | (with_reducible first | exact HB.out | apply below_alloc | apply pw_below_drewN | apply below_drew1 | refine below_set ?_ GE236.out | refine below_set ?_ GE237.out) | exact HB.out)⟩
     ·rw [if_neg c8] at H
      exact absurd H (by simp)
    ·rw [if_neg c7] at H
     exact absurd H (by simp)
   ·rw [if_neg c5] at H
    exact absurd H (by simp)
  ·rw [if_neg c4] at H
   exact absurd H (by simp)
 ·replace c2 := Bool.eq_false_iff.mpr c2
  subst c2
  have H1 : (some (a0_0, a0_1)) = some (r1, r2) := by rw [if_neg (show ¬ (false = true) by decide)] at H; exact H
  clear H
  have H := H1
  clear H1
  simp only [Option.some.injEq, Prod.mk.injEq] at H
  obtain ⟨rfl, rfl⟩ := H
  go_enter Try.func19, Try.ntmps19
  go_wp2_with (first | ((with_reducible refine gate_dst (N := 1) rfl ?_); refine box_event ?hg (N := 1) ?hd (cs := #[.string a0_0, .string a0_1, .bool false, .int .u8 a0_3]) (t := 41) ?hr ?_; (case hd => rfl); (case hg => rfl); (case hr => first | (go_simp; done) | (go_simp; rfl)); intro gb236 hg w25 hbox hb; have n0_ := Aside0.mk (below_step bl hb); have n1_ := Aside0.mk (hbox); have n2_ := Aside0.mk ((by rw [hg]; exact (below_size bl) : w.heap.size ≤ gb236)); have n3_ := Aside0.mk ((by rw [hg]; exact (below_size bl) : w.heap.size ≤ gb236)); clear HB; have HB := n0_; have BK236 := n1_; have GW236 := n2_; have GE236 := n3_; clear n0_ n1_ n2_ n3_; clear hb hbox hg) | ((with_reducible refine gate_dst (N := 2) rfl ?_); refine box_event ?hg (N := 2) ?hd (cs := #[.string (⟨#[]⟩ : ByteArray), .string (⟨#[]⟩ : ByteArray)]) (t := 39) ?hr ?_; (case hd => rfl); (case hg => rfl); (case hr => first | (go_simp; done) | (go_simp; rfl)); intro gb237 hg w26 hbox hb; have n0_ := Aside0.mk (blk_below (g := gb236) (o := .cells #[.string a0_0, .string a0_1, .bool false, .int .u8 a0_3] 41 (0, 0)) (bz BK236.out) hb); have n1_ := Aside0.mk (below_step (by repeat (first | (with_reducible first | exact HB.out | apply below_alloc | apply pw_below_drewN | apply below_drew1 | refine below_set ?_ GE236.out) | exact HB.out)) hb); have n2_ := Aside0.mk (hbox); have n3_ := Aside0.mk ((by rw [hg]; exact (below_size (by repeat (first | (with_reducible first | exact HB.out | apply below_alloc | apply pw_below_drewN | apply below_drew1 | refine below_set ?_ GE236.out) | exact HB.out))) : w.heap.size ≤ gb237)); have n4_ := Aside0.mk ((by rw [hg]; exact (below_size (by repeat (first | (with_reducible first | exact HB.out | apply below_alloc | apply pw_below_drewN | apply below_drew1 | refine below_set ?_ GE236.out) | exact HB.out))) : w.heap.size ≤ gb237)); have n5_ := Aside0.mk ((by rw [hg]; exact Nat.ne_of_lt (blk_lt (g := gb236) (o := .cells #[.string a0_0, .string a0_1, .bool false, .int .u8 a0_3] 41 (0, 0)) (bz BK236.out)) : gb236 ≠ gb237)); have n6_ := Aside0.mk ((by rw [hg]; exact Nat.ne_of_gt (blk_lt (g := gb236) (o := .cells #[.string a0_0, .string a0_1, .bool false, .int .u8 a0_3] 41 (0, 0)) (bz BK236.out)) : gb237 ≠ gb236)); clear BK236; clear HB; have BK236 := n0_; have HB := n1_; have BK237 := n2_; have GW237 := n3_; have GE237 := n4_; have NB236_237 := n5_; have NB237_236 := n6_; clear n0_ n1_ n2_ n3_ n4_ n5_ n6_; clear hb hbox hg; have hnb27 := NB236_237.out; have hnc27 := NB237_236.out; have hcz28_0 : w26.cell? ⟨gb236, 0, none⟩ = some (.string a0_0) := (blk_cell BK236.out 0).trans rfl; have hcz28_1 : w26.cell? ⟨gb236, 1, none⟩ = some (.string a0_1) := (blk_cell BK236.out 1).trans rfl; have hcz28_2 : w26.cell? ⟨gb236, 2, none⟩ = some (.bool false) := (blk_cell BK236.out 2).trans rfl; have hcz28_3 : w26.cell? ⟨gb236, 3, none⟩ = some (.int .u8 a0_3) := (blk_cell BK236.out 3).trans rfl; have hfz28_0 := blk_frozen BK236.out 0; have hfz28_1 := blk_frozen BK236.out 1; have hfz28_2 := blk_frozen BK236.out 2; have hfz28_3 := blk_frozen BK236.out 3; have hcz29_0 : w26.cell? ⟨gb237, 0, none⟩ = some (.string (⟨#[]⟩ : ByteArray)) := (blk_cell BK237.out 0).trans rfl; have hcz29_1 : w26.cell? ⟨gb237, 1, none⟩ = some (.string (⟨#[]⟩ : ByteArray)) := (blk_cell BK237.out 1).trans rfl; have hfz29_0 := blk_frozen BK237.out 0; have hfz29_1 := blk_frozen BK237.out 1))
  refine bodyPost_ret (results_cell_row rfl _ _ gb237 39 #[.string a0_0, .string a0_1] (0, 0) _ rfl (by (with_reducible repeat (first | refine blk_drewN ?_ _ | refine blk_drew ?_ | refine blk_alloc ?_ _)); refine blk_put (cs := #[.string a0_0, .string (⟨#[]⟩ : ByteArray)]) ?_ 1 _ rfl; (with_reducible repeat (first | refine blk_drewN ?_ _ | refine blk_drew ?_ | refine blk_alloc ?_ _)); refine blk_put (cs := #[.string (⟨#[]⟩ : ByteArray), .string (⟨#[]⟩ : ByteArray)]) ?_ 0 _ rfl; (with_reducible repeat (first | refine blk_drewN ?_ _ | refine blk_drew ?_ | refine blk_alloc ?_ _)); exact BK237.out) Try.underlying39 rfl (by kernel_rfl)) rfl ?_
  exact ⟨by first | rfl | (simp [errW_none, errW_some] <;> rfl) | (simp [*, errW_none, errW_some] <;> rfl), by repeat (first | (with_reducible first | exact HB.out | apply below_alloc | apply pw_below_drewN | apply below_drew1 | refine below_set ?_ GE236.out | refine below_set ?_ GE237.out) | exact HB.out)⟩

end Go.Proofs.Ytielpefbgdilaaa.X
