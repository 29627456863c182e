-- Laid by xprint.py, a program of this session's, out of the translation.
import Derived.Test.YtbkhgldinmabiaaX0
namespace Go.Proofs.Ytbkhgldinmabiaa.X
open Go.RowKit Go.Proofs.YtbkhgldinmabiaaW.PrintWords Go.Proofs.YtbkhgldinmabiaaW.PrintLast Go.Proofs.YtbkhgldinmabiaaW.PrintMore
attribute [local go_sem] max2_int min2_int max_two min_two max_three min_three max_four min_four x_isSome x_str_gtr x_str_leq x_str_geq   -- for this text's walks alone
set_option linter.unusedVariables false
set_option linter.unusedSimpArgs false

/-! ### archivistlaw06_bend: function 34 -/
/-- the byte at the place that 'at' tells, held against 'by' -/
def archivistlaw06_bend.place (s : ByteArray) (a : Int) : Nat := (if a < 0 then -(a + 1) else a).toNat % s.size
def archivistlaw06_bend.f (a0 : ByteArray) (a1 : Int) (a2 : Int) : Option (ByteArray) :=
 if a0.size = 0 then some a0
 else if -9223372036854775808 ≤ a1 ∧ a1 ≤ 9223372036854775807 ∧ 0 ≤ a2 ∧ a2 ≤ 255 ∧ a0.size ≤ 9223372036854775807 then
  some (strOfNums ((bytesOf a0).set (archivistlaw06_bend.place a0 a1) (Go.bits .xor .u8 (bt a0 (archivistlaw06_bend.place a0 a1)) a2)))
 else none
theorem archivistlaw06_bend.conv (w : World) (s : ByteArray) (hs : s.size ≤ 9223372036854775807) : (∀ j, j < s.size → (Lib.bytesWorld w 5 s).cell? ⟨w.heap.size, j, none⟩ = some (.int .u8 (bt s j))) ∧ (∀ j, j < s.size → (Lib.bytesWorld w 5 s).frozen? ⟨w.heap.size, j, none⟩ = false) ∧ Below w.heap.size w (Lib.bytesWorld w 5 s) := by
 refine ⟨fun j hj => ?_, fun j hj => ?_, bytes_below (Below.refl _ _) (Nat.le_refl _) 5 s⟩
 ·rw [Lib.bytesWorld_cell w 5 s j hj]
  have h := rd_bytesOf s j
  rw [← h]
  have h' : j < s.data.toList.length := by rw [data_length]; exact hj
  simp [rd, bytesOf, List.getD_eq_getElem?_getD, List.getElem?_eq_getElem h']
 ·have hc : s.size ≤ (Lib.bytesCells w 5 s).size := by first | (simp [Lib.bytesCells]; done) | (simp [Lib.bytesCells]; omega)
  simp only [World.frozen?, Lib.bytesWorld_at_new]
  simp
  try omega
set_option maxHeartbeats 8000000 in
set_option maxRecDepth 100000 in
theorem archivistlaw06_bend.some_ (a0 : ByteArray) (m : Nat) (a2 : Int) (w : World) (h0 : 0 < a0.size) (hs : a0.size ≤ 9223372036854775807) (hm : m ≤ 9223372036854775807) (hb0 : 0 ≤ a2) (hb1 : a2 ≤ 255) (y : Int) (hy : bt a0 (m % a0.size : Nat) = y) :
  Calls Try.prog 34 #[.string a0, .int .i64 m, .int .u8 a2] w fun e w' => e = .returned (.string (strOfNums ((bytesOf a0).set (m % a0.size) (Go.bits .xor .u8 y a2)))) ∧ Below w.heap.size w w' := by
 obtain ⟨hcell, hfz, hbel⟩ := archivistlaw06_bend.conv w a0 hs
 have hne : ¬ a0.toList = [] := by
  intro h
  have h2 : a0.toList.length = 0 := by rw [h]; rfl
  have h3 : a0.toList = a0.data.toList := x_toList a0
  rw [h3, data_length] at h2
  omega
 have hne0 : (a0.toList == ([] : List UInt8)) = false := beq_eq_false_iff_ne.mpr hne
 have hne1 : (a0.toList != ([] : List UInt8)) = true := bne_iff_ne.mpr hne
 have hi : m % a0.size < a0.size := Nat.mod_lt _ h0
 have hx := hcell _ hi
 have hf := hfz _ hi
 rw [hy] at hx
 have HC := Aside0.mk hcell
 have HF := Aside0.mk hfz
 have HBL := Aside0.mk hbel
 have kb := fun W => print_bytes (P := Try.prog) 9 58 5 Try.underlying9 Try.underlying58 Try.underlying5 a0 W
 have HY := Aside0.mk hy
 clear hcell hfz hbel hne hy
 go_enter Try.func34, Try.ntmps34
 go_wp2
 generalize Lib.bytesWorld w 5 a0 = W1 at HC HF HBL hx hf ⊢
 have hcv : (convert 58 9 (.slice (some ⟨w.heap.size, 0, none⟩) a0.size (grownCap w a0.size 0 5))).run Try.prog (W1.setCell ⟨w.heap.size, m % a0.size, none⟩ (.int .u8 (Go.bits .xor .u8 y a2))).drew = .ok (.string (strOfNums ((bytesOf a0).set (m % a0.size) (Go.bits .xor .u8 y a2)))) (W1.setCell ⟨w.heap.size, m % a0.size, none⟩ (.int .u8 (Go.bits .xor .u8 y a2))).drew := by
  refine run_convert_bytes_arg _ 58 5 Try.underlying58 Try.underlying5 w.heap.size 0 a0.size _ _ (by rw [List.length_set, bytesOf_length]) (fun i hi' => ?_) 9 Try.underlying9
  rw [Nat.zero_add, World.cell?_drew]
  have hl : i < (bytesOf a0).length := by rw [bytesOf_length]; exact hi'
  by_cases e : m % a0.size = i
  ·subst e
   rw [World.cell?_setCell_same' _ _ _ (by rw [hx]; rfl)]
   simp [List.getD_eq_getElem?_getD, hl]
  ·rw [World.cell?_setCell_other _ _ _ _ (by intro h; injection h with _ h _; exact e h), HC.out i hi']
   have hr := rd_bytesOf a0 i
   simp only [rd, Int.toNat_natCast] at hr
   rw [List.getD_eq_getElem?_getD, List.getElem?_set_ne e, ← List.getD_eq_getElem?_getD, hr]
 go_region
 go_wp2
 go_ret
 refine ⟨rfl, ?_⟩
 have hB2 := HBL.out.setCell (p := ⟨w.heap.size, m % a0.size, none⟩) (Nat.le_refl _) (.int .u8 (Go.bits .xor .u8 y a2))
 first | exact below_drew hB2 | exact hB2 | exact pw_below_drewN hB2 _
set_option maxHeartbeats 8000000 in
set_option maxRecDepth 100000 in
theorem archivistlaw06_bend.neg_ (a0 : ByteArray) (m : Nat) (a2 : Int) (w : World) (h0 : 0 < a0.size) (hs : a0.size ≤ 9223372036854775807) (hm : m ≤ 9223372036854775807) (hb0 : 0 ≤ a2) (hb1 : a2 ≤ 255) (y : Int) (hy : bt a0 (m % a0.size : Nat) = y) :
  Calls Try.prog 34 #[.string a0, .int .i64 (-(m : Int) - 1), .int .u8 a2] w fun e w' => e = .returned (.string (strOfNums ((bytesOf a0).set (m % a0.size) (Go.bits .xor .u8 y a2)))) ∧ Below w.heap.size w w' := by
 obtain ⟨hcell, hfz, hbel⟩ := archivistlaw06_bend.conv w a0 hs
 have hne : ¬ a0.toList = [] := by
  intro h
  have h2 : a0.toList.length = 0 := by rw [h]; rfl
  have h3 : a0.toList = a0.data.toList := x_toList a0
  rw [h3, data_length] at h2
  omega
 have hne0 : (a0.toList == ([] : List UInt8)) = false := beq_eq_false_iff_ne.mpr hne
 have hne1 : (a0.toList != ([] : List UInt8)) = true := bne_iff_ne.mpr hne
 have hi : m % a0.size < a0.size := Nat.mod_lt _ h0
 have hx := hcell _ hi
 have hf := hfz _ hi
 rw [hy] at hx
 have HC := Aside0.mk hcell
 have HF := Aside0.mk hfz
 have HBL := Aside0.mk hbel
 have kb := fun W => print_bytes (P := Try.prog) 9 58 5 Try.underlying9 Try.underlying58 Try.underlying5 a0 W
 have HY := Aside0.mk hy
 clear hcell hfz hbel hne hy
 go_enter Try.func34, Try.ntmps34
 go_wp2
 generalize Lib.bytesWorld w 5 a0 = W1 at HC HF HBL hx hf ⊢
 have hcv : (convert 58 9 (.slice (some ⟨w.heap.size, 0, none⟩) a0.size (grownCap w a0.size 0 5))).run Try.prog (W1.setCell ⟨w.heap.size, m % a0.size, none⟩ (.int .u8 (Go.bits .xor .u8 y a2))).drew = .ok (.string (strOfNums ((bytesOf a0).set (m % a0.size) (Go.bits .xor .u8 y a2)))) (W1.setCell ⟨w.heap.size, m % a0.size, none⟩ (.int .u8 (Go.bits .xor .u8 y a2))).drew := by
  refine run_convert_bytes_arg _ 58 5 Try.underlying58 Try.underlying5 w.heap.size 0 a0.size _ _ (by rw [List.length_set, bytesOf_length]) (fun i hi' => ?_) 9 Try.underlying9
  rw [Nat.zero_add, World.cell?_drew]
  have hl : i < (bytesOf a0).length := by rw [bytesOf_length]; exact hi'
  by_cases e : m % a0.size = i
  ·subst e
   rw [World.cell?_setCell_same' _ _ _ (by rw [hx]; rfl)]
   simp [List.getD_eq_getElem?_getD, hl]
  ·rw [World.cell?_setCell_other _ _ _ _ (by intro h; injection h with _ h _; exact e h), HC.out i hi']
   have hr := rd_bytesOf a0 i
   simp only [rd, Int.toNat_natCast] at hr
   rw [List.getD_eq_getElem?_getD, List.getElem?_set_ne e, ← List.getD_eq_getElem?_getD, hr]
 go_region
 go_wp2
 go_ret
 refine ⟨rfl, ?_⟩
 have hB2 := HBL.out.setCell (p := ⟨w.heap.size, m % a0.size, none⟩) (Nat.le_refl _) (.int .u8 (Go.bits .xor .u8 y a2))
 first | exact below_drew hB2 | exact hB2 | exact pw_below_drewN hB2 _
theorem archivistlaw06_bend.calls (a0 : ByteArray) (a1 : Int) (a2 : Int) (r : ByteArray) (w : World) (h : archivistlaw06_bend.f a0 a1 a2 = some r) :
  Calls Try.prog 34 #[.string a0, .int .i64 a1, .int .u8 a2] w fun e w' => e = .returned (.string r) ∧ Below w.heap.size w w' := by
 unfold archivistlaw06_bend.f at h
 split at h
 ·rename_i hz
  obtain rfl := Option.some.inj h
  have hne : a0.toList = [] := by rw [x_toList]; exact List.eq_nil_of_length_eq_zero (by rw [data_length]; exact hz)
  have hne0 : (a0.toList == ([] : List UInt8)) = true := beq_iff_eq.mpr hne
  have hne1 : (a0.toList != ([] : List UInt8)) = false := bne_eq_false_iff_eq.mpr hne
  clear hne h hz
  go_enter Try.func34, Try.ntmps34
  go_wp2
  go_ret
  exact ⟨rfl, Below.refl _ _⟩
 ·rename_i hz
  split at h
  case isFalse => simp at h
  rename_i hc
  obtain ⟨h1, h2, h3, h4, h5⟩ := hc
  obtain rfl := Option.some.inj h
  by_cases hn : a1 < 0
  ·obtain ⟨m, hm⟩ := Int.eq_ofNat_of_zero_le (show 0 ≤ -(a1 + 1) by omega)
   have ha : a1 = -(m : Int) - 1 := by omega
   have hp : archivistlaw06_bend.place a0 a1 = m % a0.size := by unfold archivistlaw06_bend.place; rw [if_pos hn, hm, Int.toNat_natCast]
   rw [hp]
   subst ha
   exact archivistlaw06_bend.neg_ a0 m a2 w (by omega) h5 (by omega) h3 h4 _ rfl
  ·obtain ⟨m, hm⟩ := Int.eq_ofNat_of_zero_le (show 0 ≤ a1 by omega)
   have hp : archivistlaw06_bend.place a0 a1 = m % a0.size := by unfold archivistlaw06_bend.place; rw [if_neg hn, hm, Int.toNat_natCast]
   rw [hp]
   subst hm
   exact archivistlaw06_bend.some_ a0 m a2 w (by omega) h5 (by omega) h3 h4 _ rfl

end Go.Proofs.Ytbkhgldinmabiaa.X
