-- Laid by xprint.py, a program of this session's, out of the translation.
import Derived.Test.YtaehlbbjbeibfaaX0
namespace Go.Proofs.Ytaehlbbjbeibfaa.X
open Go.RowKit Go.Proofs.YtaehlbbjbeibfaaW.PrintWords Go.Proofs.YtaehlbbjbeibfaaW.PrintLast Go.Proofs.YtaehlbbjbeibfaaW.PrintMore
attribute [local go_sem] max2_int min2_int max_two min_two max_three min_three max_four min_four x_isSome x_str_gtr x_str_leq x_str_geq   -- for this text's walks alone
set_option linter.unusedVariables false
set_option linter.unusedSimpArgs false

/-! ### label_Name: function 56 -/
mutual
def label_Name.j0 : Nat → ByteArray → Bool → Option (Bool)
 | 0, _, _ => none
 | k + 1, x0, x22 => if x22 = true then (some false) else (if x0.size ≤ 9223372036854775807 then ((some (bytesOf x0 : List Int)).bind fun y230 => (label_Name.l0 k y230 (y230.length : Int) 0)) else (none))
def label_Name.l0 : Nat → List Int → Int → Int → Option (Bool)
 | 0, _, _, _ => none
 | k + 1, x24, x25, x26 => if x26 < x25 then (if 0 ≤ x26 then (if x26 < (x24.length : Int) then (if (rd x24 x26) = 95 then (label_Name.l0 k x24 x25 (wrap64 (x26 + 1))) else (if (rd x24 x26) < 48 then (if (rd x24 x26) < 65 then (some false) else (if (Go.bits .or .u8 (rd x24 x26) 32) < 97 then (some false) else (if (Go.bits .or .u8 (rd x24 x26) 32) > 122 then (some false) else (label_Name.l0 k x24 x25 (wrap64 (x26 + 1)))))) else (if (rd x24 x26) > 57 then (if (rd x24 x26) < 65 then (some false) else (if (Go.bits .or .u8 (rd x24 x26) 32) < 97 then (some false) else (if (Go.bits .or .u8 (rd x24 x26) 32) > 122 then (some false) else (label_Name.l0 k x24 x25 (wrap64 (x26 + 1)))))) else (label_Name.l0 k x24 x25 (wrap64 (x26 + 1)))))) else (none)) else (none)) else (some true)
end
def label_Name.f (k : Nat) (a0 : ByteArray) : Option (Bool) := if a0.toList = ([] : List UInt8) then (label_Name.j0 k a0 true) else (if (a0.size : Int) > 32 then (label_Name.j0 k a0 true) else (if 0 < (a0.size : Int) then (if (bt a0 0) ≥ 48 then (label_Name.j0 k a0 (decide ((bt a0 0) ≤ 57))) else (label_Name.j0 k a0 false)) else (none)))
theorem label_Name.mono_l : ∀ k, (∀ y0 y1, LeO (label_Name.j0 k y0 y1) (label_Name.j0 (k + 1) y0 y1)) ∧ (∀ y0 y1 y2, LeO (label_Name.l0 k y0 y1 y2) (label_Name.l0 (k + 1) y0 y1 y2))
 | 0 => ⟨fun _ _ r h => by simp [label_Name.j0] at h, fun _ _ _ r h => by simp [label_Name.l0] at h⟩
 | k + 1 => by
  obtain ⟨ih0, ih1⟩ := label_Name.mono_l k
  refine ⟨?_, ?_⟩
  ·intro y0 y1
   unfold label_Name.j0
   exact mo
  ·intro y0 y1 y2
   unfold label_Name.l0
   exact mo
theorem label_Name.mono : ∀ a0 k, LeO (label_Name.f k a0) (label_Name.f (k + 1) a0) := by
 intro a0 k
 obtain ⟨ih0, ih1⟩ := label_Name.mono_l k
 unfold label_Name.f
 exact mo
theorem label_Name.lf {p_ : Prop} (h : p_ := by
 go_wp2
 go_meet
 case rel => exact ⟨_, (true), rs, H', ⟨zcz⟩, ⟨bl⟩⟩) : p_ := h
theorem label_Name.lf1 {p_ : Prop} (h : p_ := by
 go_wp2
 go_ret
 exact ⟨zaa, bl⟩) : p_ := h
theorem label_Name.lf2 {p_ : Prop} (h : p_ := by
 go_wp2
 go_roundg k2
 case measure => have := HJ1.out; have := HK2.out; omega
 case rel => exact ⟨(wrap64 (x26_2 + 1)), rs, H', ⟨by have := HJ1.out; have := HK2.out; omega⟩, ⟨vz HO_24.out⟩, ⟨bl⟩⟩) : p_ := h
set_option maxHeartbeats 8000000 in
set_option maxRecDepth 100000 in
theorem label_Name.calls (k : Nat) (a0 : ByteArray) (r : Bool) (w : World) (h : label_Name.f k a0 = some r) :
  Calls Try.prog 56 #[.string a0] w fun e w' => e = .returned (.bool r) ∧ Below w.heap.size w w' := by
 have HB := Aside0.mk (Below.refl w.heap.size w); have H : (if a0.toList = ([] : List UInt8) then (label_Name.j0 k a0 true) else (if (a0.size : Int) > 32 then (label_Name.j0 k a0 true) else (if 0 < (a0.size : Int) then (if (bt a0 0) ≥ 48 then (label_Name.j0 k a0 (decide ((bt a0 0) ≤ 57))) else (label_Name.j0 k a0 false)) else (none)))) = some r := h; clear h; have HC2 := Aside0.mk H; clear H; go_enter Try.func56, Try.ntmps56
 go_upto_region 1 with (fail)
 go_cut [22] (fun v22 wc => ∃ (kq : Nat) (x22_1 : Bool), v22 = .bool x22_1 ∧ Aside0 (label_Name.j0 kq a0 x22_1 = some r) ∧ Aside0 (kq ≤ k) ∧ Aside0 (Below w.heap.size w wc))
 case first =>
  have H := HC2.out; clear HC2; by_cases c3 : a0.toList = ([] : List UInt8)
  ·rw [if_pos c3] at H; have c3b0 : (a0.toList == ([] : List UInt8)) = true := beq_iff_eq.mpr c3; have c3b1 : (a0.toList != ([] : List UInt8)) = false := bne_eq_false_iff_eq.mpr c3; clear c3
   (first | rw [c3b0] | (simp only [i64_w, i32_w]; rw [c3b0]) | skip); have H' := Aside0.mk H; clear H; exact label_Name.lf
  ·rw [if_neg c3] at H; have c3b0 : (a0.toList == ([] : List UInt8)) = false := beq_eq_false_iff_ne.mpr c3; have c3b1 : (a0.toList != ([] : List UInt8)) = true := bne_iff_ne.mpr c3
   (first | rw [c3b0] | (simp only [i64_w, i32_w]; rw [c3b0]) | skip); by_cases c4 : (a0.size : Int) > 32
   ·rw [if_pos c4] at H; have c4b0 := decide_eq_true c4; have c4b1 : decide (32 < a0.size) = true := decide_eq_true (by omega); clear c4; have H' := Aside0.mk H; clear H; exact label_Name.lf
   ·rw [if_neg c4] at H; have c4b0 : decide (32 < (a0.size : Int)) = false := decide_eq_false c4; have c4b1 : decide (32 < a0.size) = false := decide_eq_false (by omega); clear c4; obtain ⟨c5, H⟩ := ip H; have c5b0 := decide_eq_true c5; have c5b1 : decide (0 < a0.size) = true := decide_eq_true (by omega); clear c5; by_cases c7 : (bt a0 0) ≥ 48
    ·rw [if_pos c7] at H; have c7b0 := decide_eq_true c7; clear c7; have H' := Aside0.mk H; clear H; have p6 : 0 ≤ (0 : Int) := (by omega); have q6 : 0 < a0.size := (by have : (0 : Int) < (a0.size : Int) := od; omega); have hx6 : ∀ h : 0 < a0.size, ((a0[0]'h).toNat : Int) = bt a0 0 := bt_at a0 0; clear p6; have qi6 : (0 < (a0.size : Int)) = True := eq_true (od); replace q6 := eq_true q6; have p8 : 0 ≤ (0 : Int) := (by omega); have q8 : 0 < a0.size := (by have : (0 : Int) < (a0.size : Int) := od; omega); have hx8 : ∀ h : 0 < a0.size, ((a0[0]'h).toNat : Int) = bt a0 0 := bt_at a0 0; clear p8; have qi8 : (0 < (a0.size : Int)) = True := eq_true (od); replace q8 := eq_true q8; go_wp2
     go_meet
     case rel => exact ⟨_, (decide ((bt a0 0) ≤ 57)), rs, H', ⟨zcz⟩, ⟨bl⟩⟩
    ·rw [if_neg c7] at H; have c7b0 : decide (48 ≤ (bt a0 0)) = false := decide_eq_false c7; clear c7; have H' := Aside0.mk H; clear H; have p6 : 0 ≤ (0 : Int) := (by omega); have q6 : 0 < a0.size := (by have : (0 : Int) < (a0.size : Int) := od; omega); have hx6 : ∀ h : 0 < a0.size, ((a0[0]'h).toNat : Int) = bt a0 0 := bt_at a0 0; clear p6; have qi6 : (0 < (a0.size : Int)) = True := eq_true (od); replace q6 := eq_true q6; go_wp2
     go_meet
     case rel => exact ⟨_, (false), rs, H', ⟨zcz⟩, ⟨bl⟩⟩
 case rest =>
  clear HC2; (try clear p2); (try clear c3); (try clear c3b0); (try clear c3b1); (try clear c4); (try clear c4b0); (try clear c4b1); (try clear c5); (try clear c5b0); (try clear c5b1); (try clear p6); (try clear q6); (try clear hx6); (try clear qi6); (try clear c7); (try clear c7b0); (try clear p8); (try clear q8); (try clear hx8); (try clear qi8); (try clear p6); (try clear p8); (try clear q6); (try clear q8); obtain ⟨kq, x22_1, rfl, HA, HJ1, HB⟩ := hcut; cases kq with
  | zero => exact absurd HA.out (by simp [label_Name.j0])
  | succ kj1 =>
   have H := HA.out; clear HA; simp only [label_Name.j0] at H; by_cases c9 : x22_1 = true
   ·subst c9; rw [if_pos rfl] at H; obtain rfl := Option.some.inj H; exact label_Name.lf1
   ·replace c9 := Bool.eq_false_iff.mpr c9; subst c9; rw [if_neg nf] at H; obtain ⟨c10, H⟩ := ip H; have c10b0 := eq_true c10; have c10b1 : decide (a0.size ≤ 9223372036854775807) = true := decide_eq_true c10; (try have c10b2 : (9223372036854775807 < a0.size) = False := eq_false (Nat.not_lt.2 c10)); clear c10; obtain ⟨y230, hy230⟩ : ∃ y_ : List Int, y_ = (bytesOf a0) := ⟨_, rfl⟩; replace H : (label_Name.l0 kj1 y230 (y230.length : Int) 0) = some r := by first | (rw [hy230]; with_reducible exact H) | (have H2_ := (Option.bind_some _ _).symm.trans H; rw [hy230]; with_reducible exact H2_) | (have H2_ := (Option.bind_some _ _).symm.trans H; with_reducible exact H2_) | with_reducible exact H | (rw [hy230]; exact H) | exact H
    have Ny230 := Aside0.mk hy230; clear hy230; have H' := Aside0.mk H; clear H; go_wp2_with (first | ((with_reducible refine gate_dst (N := 24) rfl ?_); (try (refine gate_guard (by rfl) ?_; dsimp only)); refine x_conv _ 5 rfl (N := 24) rfl 9 58 Try.underlying9 Try.underlying58 Try.underlying5 a0 ?hr (by first | omega | exact od) (Below.refl _ _) (Nat.le_refl _) ?_; (case hr => first | rfl | (go_simp; done) | (go_simp; rfl)); intro v231 w11 ho12 hb hg_ hnew_; clear hg_ hnew_; (first | rw [← Ny230.out] at ho12 | (simp only [Int.reduceToNat] at ho12; rw [← Ny230.out] at ho12)); have HO232 := Aside0.mk (Kd.V_lower (Kd.V_mono (ok' := fun k_ => True) ho12 (fun k_ hk_ => trivial)) (below_size bl)); replace HB := Aside0.mk (below_step bl hb); clear hb ho12; obtain ⟨Ao13, co13, eo13⟩ := Kd.V_slice HO232.out; subst eo13))
    go_loopg [26] kj1 (fun kq v26 w' => ∃ (x26_2 : Int), v26 = .int .i64 x26_2 ∧ Aside0 (label_Name.l0 kq y230 (y230.length : Int) x26_2 = some r) ∧ Aside0 (kq ≤ kj1) ∧ Aside0 (Kd.V (Kd.int .u8) 5 w' w.heap.size (fun _ => True) (.slice Ao13 y230.length co13) y230) ∧ Aside0 (Below w.heap.size w w'))
    case atStart => exact ⟨(0), rs, H', ⟨Nat.le_refl _⟩, ⟨vz HO232.out⟩, ⟨bl⟩⟩
    case round =>
     clear H'; (try clear c1); (try clear p2); (try clear c3); (try clear c3b0); (try clear c3b1); (try clear c4); (try clear c4b0); (try clear c4b1); (try clear c5); (try clear c5b0); (try clear c5b1); (try clear p6); (try clear q6); (try clear hx6); (try clear qi6); (try clear c7); (try clear c7b0); (try clear p8); (try clear q8); (try clear hx8); (try clear qi8); (try clear c9); (try clear c10); (try clear c10b0); (try clear c10b1); (try clear c10b2); (try clear p2); (try clear p6); (try clear p8); (try clear q6); (try clear q8); obtain ⟨x26_2, rfl, HA, HK2, HO_24, HB⟩ := hrel; cases gk with
     | zero => exact absurd HA.out (by simp [label_Name.l0])
     | succ k2 =>
      have H := HA.out; clear HA; simp only [label_Name.l0] at H; by_cases c14 : x26_2 < (y230.length : Int)
      ·rw [if_pos c14] at H; have c14b0 := decide_eq_true c14; clear c14; obtain ⟨c15, H⟩ := ip H; have c15b0 := decide_eq_true c15; clear c15; obtain ⟨c16, H⟩ := ip H; have c16b0 := decide_eq_true c16; clear c16; by_cases c17 : (rd y230 x26_2) = 95
       ·rw [if_pos c17] at H; have c17b0 : ((rd y230 x26_2) == 95) = true := beq_iff_eq.mpr c17; have c17b1 : ((rd y230 x26_2) != 95) = false := bne_eq_false_iff_eq.mpr c17; clear c17; have H' := Aside0.mk H; clear H; have p233 : 0 ≤ (x26_2 : Int) := od; have q233 : x26_2 < (y230.length : Int) := od; obtain ⟨ad233, e233, hx233_0⟩ := Kd.at_int (Kd.V_reads' HO_24.out).2.2 x26_2 p233 q233; cases e233; replace p233 := eq_true p233; replace q233 := eq_true q233; exact label_Name.lf2
       ·rw [if_neg c17] at H; have c17b0 : ((rd y230 x26_2) == 95) = false := beq_eq_false_iff_ne.mpr c17; have c17b1 : ((rd y230 x26_2) != 95) = true := bne_iff_ne.mpr c17; by_cases c18 : (rd y230 x26_2) < 48
        ·rw [if_pos c18] at H; have c18b0 := decide_eq_true c18; clear c18; by_cases c19 : (rd y230 x26_2) < 65
         ·rw [if_pos c19] at H; have c19b0 := decide_eq_true c19; clear c19; obtain rfl := Option.some.inj H; have p233 : 0 ≤ (x26_2 : Int) := od; have q233 : x26_2 < (y230.length : Int) := od; obtain ⟨ad233, e233, hx233_0⟩ := Kd.at_int (Kd.V_reads' HO_24.out).2.2 x26_2 p233 q233; cases e233; replace p233 := eq_true p233; replace q233 := eq_true q233; exact label_Name.lf1
         ·rw [if_neg c19] at H; have c19b0 : decide ((rd y230 x26_2) < 65) = false := decide_eq_false c19; clear c19; by_cases c20 : (Go.bits .or .u8 (rd y230 x26_2) 32) < 97
          ·rw [if_pos c20] at H; have c20b0 := decide_eq_true c20; clear c20; obtain rfl := Option.some.inj H; have p233 : 0 ≤ (x26_2 : Int) := od; have q233 : x26_2 < (y230.length : Int) := od; obtain ⟨ad233, e233, hx233_0⟩ := Kd.at_int (Kd.V_reads' HO_24.out).2.2 x26_2 p233 q233; cases e233; replace p233 := eq_true p233; replace q233 := eq_true q233; exact label_Name.lf1
          ·rw [if_neg c20] at H; have c20b0 : decide ((Go.bits .or .u8 (rd y230 x26_2) 32) < 97) = false := decide_eq_false c20; clear c20; by_cases c21 : (Go.bits .or .u8 (rd y230 x26_2) 32) > 122
           ·rw [if_pos c21] at H; have c21b0 := decide_eq_true c21; clear c21; obtain rfl := Option.some.inj H; have p233 : 0 ≤ (x26_2 : Int) := od; have q233 : x26_2 < (y230.length : Int) := od; obtain ⟨ad233, e233, hx233_0⟩ := Kd.at_int (Kd.V_reads' HO_24.out).2.2 x26_2 p233 q233; cases e233; replace p233 := eq_true p233; replace q233 := eq_true q233; exact label_Name.lf1
           ·rw [if_neg c21] at H; have c21b0 : decide (122 < (Go.bits .or .u8 (rd y230 x26_2) 32)) = false := decide_eq_false c21; clear c21; have H' := Aside0.mk H; clear H; have p233 : 0 ≤ (x26_2 : Int) := od; have q233 : x26_2 < (y230.length : Int) := od; obtain ⟨ad233, e233, hx233_0⟩ := Kd.at_int (Kd.V_reads' HO_24.out).2.2 x26_2 p233 q233; cases e233; replace p233 := eq_true p233; replace q233 := eq_true q233; exact label_Name.lf2
        ·rw [if_neg c18] at H; have c18b0 : decide ((rd y230 x26_2) < 48) = false := decide_eq_false c18; clear c18; by_cases c22 : (rd y230 x26_2) > 57
         ·rw [if_pos c22] at H; have c22b0 := decide_eq_true c22; clear c22; by_cases c23 : (rd y230 x26_2) < 65
          ·rw [if_pos c23] at H; have c23b0 := decide_eq_true c23; clear c23; obtain rfl := Option.some.inj H; have p233 : 0 ≤ (x26_2 : Int) := od; have q233 : x26_2 < (y230.length : Int) := od; obtain ⟨ad233, e233, hx233_0⟩ := Kd.at_int (Kd.V_reads' HO_24.out).2.2 x26_2 p233 q233; cases e233; replace p233 := eq_true p233; replace q233 := eq_true q233; exact label_Name.lf1
          ·rw [if_neg c23] at H; have c23b0 : decide ((rd y230 x26_2) < 65) = false := decide_eq_false c23; clear c23; by_cases c24 : (Go.bits .or .u8 (rd y230 x26_2) 32) < 97
           ·rw [if_pos c24] at H; have c24b0 := decide_eq_true c24; clear c24; obtain rfl := Option.some.inj H; have p233 : 0 ≤ (x26_2 : Int) := od; have q233 : x26_2 < (y230.length : Int) := od; obtain ⟨ad233, e233, hx233_0⟩ := Kd.at_int (Kd.V_reads' HO_24.out).2.2 x26_2 p233 q233; cases e233; replace p233 := eq_true p233; replace q233 := eq_true q233; exact label_Name.lf1
           ·rw [if_neg c24] at H; have c24b0 : decide ((Go.bits .or .u8 (rd y230 x26_2) 32) < 97) = false := decide_eq_false c24; clear c24; by_cases c25 : (Go.bits .or .u8 (rd y230 x26_2) 32) > 122
            ·rw [if_pos c25] at H; have c25b0 := decide_eq_true c25; clear c25; obtain rfl := Option.some.inj H; have p233 : 0 ≤ (x26_2 : Int) := od; have q233 : x26_2 < (y230.length : Int) := od; obtain ⟨ad233, e233, hx233_0⟩ := Kd.at_int (Kd.V_reads' HO_24.out).2.2 x26_2 p233 q233; cases e233; replace p233 := eq_true p233; replace q233 := eq_true q233; exact label_Name.lf1
            ·rw [if_neg c25] at H; have c25b0 : decide (122 < (Go.bits .or .u8 (rd y230 x26_2) 32)) = false := decide_eq_false c25; clear c25; have H' := Aside0.mk H; clear H; have p233 : 0 ≤ (x26_2 : Int) := od; have q233 : x26_2 < (y230.length : Int) := od; obtain ⟨ad233, e233, hx233_0⟩ := Kd.at_int (Kd.V_reads' HO_24.out).2.2 x26_2 p233 q233; cases e233; replace p233 := eq_true p233; replace q233 := eq_true q233; exact label_Name.lf2
         ·rw [if_neg c22] at H; have c22b0 : decide (57 < (rd y230 x26_2)) = false := decide_eq_false c22; clear c22; have H' := Aside0.mk H; clear H; have p233 : 0 ≤ (x26_2 : Int) := od; have q233 : x26_2 < (y230.length : Int) := od; obtain ⟨ad233, e233, hx233_0⟩ := Kd.at_int (Kd.V_reads' HO_24.out).2.2 x26_2 p233 q233; cases e233; replace p233 := eq_true p233; replace q233 := eq_true q233; exact label_Name.lf2
      ·rw [if_neg c14] at H; have c14b0 : decide (x26_2 < (y230.length : Int)) = false := decide_eq_false c14; clear c14; obtain rfl := Option.some.inj H; exact label_Name.lf1

end Go.Proofs.Ytaehlbbjbeibfaa.X
