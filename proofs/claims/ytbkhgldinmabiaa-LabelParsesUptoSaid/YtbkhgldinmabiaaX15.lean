-- Laid by xprint.py, a program of this session's, out of the translation.
import Derived.Test.YtbkhgldinmabiaaX0
namespace Go.Proofs.Ytbkhgldinmabiaa.X
open Go.RowKit Go.Proofs.YtbkhgldinmabiaaW.PrintWords Go.Proofs.YtbkhgldinmabiaaW.PrintLast Go.Proofs.YtbkhgldinmabiaaW.PrintMore
attribute [local go_sem] max2_int min2_int max_two min_two max_three min_three max_four min_four x_isSome x_str_gtr x_str_leq x_str_geq   -- for this text's walks alone
set_option linter.unusedVariables false
set_option linter.unusedSimpArgs false

/-! ### archivistlaw06_Tag_tag: function 49 -/
def archivistlaw06_Tag_tag.f (a0_0 : ByteArray) (a0_1 : ByteArray) (a0_2 : Bool) (a0_3 : Int) : Option (ByteArray × ByteArray) := if a0_2 = true then ((some (([(⟨#[97, 112, 112]⟩ : ByteArray), (⟨#[101, 110, 118]⟩ : ByteArray), (⟨#[108, 118, 108]⟩ : ByteArray), (⟨#[100, 117, 114]⟩ : ByteArray), (⟨#[110]⟩ : ByteArray)] : List ByteArray) : List ByteArray)).bind fun y292 => (if 0 ≤ (Int.tmod a0_3 5) then (if (Int.tmod a0_3 5) < (y292.length : Int) then ((some (([(⟨#[97]⟩ : ByteArray), (⟨#[98]⟩ : ByteArray), (⟨#[120, 49]⟩ : ByteArray), (⟨#[53, 109]⟩ : ByteArray), (⟨#[55]⟩ : ByteArray), (⟨#[]⟩ : ByteArray), (⟨#[50, 75, 66]⟩ : ByteArray), (⟨#[97, 98]⟩ : ByteArray)] : List ByteArray) : List ByteArray)).bind fun y296 => (if 0 ≤ (((Int.tdiv a0_3 5) % 256) % 8) then (if (((Int.tdiv a0_3 5) % 256) % 8) < (y296.length : Int) then (some (rdOf ByteArray.empty y292 (Int.tmod a0_3 5), rdOf ByteArray.empty y296 (((Int.tdiv a0_3 5) % 256) % 8))) else (none)) else (none))) else (none)) else (none))) else (some (a0_0, a0_1))
def archivistlaw06_Tag_tag.T3 : Bool × List (List Nat × List Nat) := (true, [([], []), ([], []), ([1], [1]), ([2], [2]), ([0, 3], [0, 3]), ([4], [4]), ([], []), ([], []), ([7], [7]), ([8], [8]), ([9], [9]), ([6, 10], [6, 10]), ([11], [11]), ([5, 12], [5, 12]), ([13, 0, 1, 2, 3, 4, 5, 6, 7, 8, 9, 10, 11, 12, 13], [13])])
def archivistlaw06_Tag_tag.B3 : List Nat := [0, 0, 2, 6, 15, 31, 0, 0, 128, 384, 896, 1984, 4032, 8191, 16383]
theorem archivistlaw06_Tag_tag.tab3 : rtab .any (opsOf Try.f49 3) = archivistlaw06_Tag_tag.T3 := by kernel_rfl
theorem archivistlaw06_Tag_tag.bits3 : waitsOk archivistlaw06_Tag_tag.T3.2 archivistlaw06_Tag_tag.B3 = true := by kernel_rfl
set_option maxHeartbeats 8000000 in
set_option maxRecDepth 100000 in
theorem archivistlaw06_Tag_tag.calls (a0_0 : ByteArray) (a0_1 : ByteArray) (a0_2 : Bool) (a0_3 : Int) (r1 : ByteArray) (r2 : ByteArray) (w : World) (h : archivistlaw06_Tag_tag.f a0_0 a0_1 a0_2 a0_3 = some (r1, r2)) :
  Calls Try.prog 49 #[.agg #[.string a0_0, .string a0_1, .bool a0_2, .int .u8 a0_3]] w fun e w' => e = .returned (.agg #[.string r1, .string r2]) ∧ Below w.heap.size w w' := by
 have hu76 := Try.underlying76
 have hu29 := Try.underlying29
 have HB := Aside0.mk (Below.refl w.heap.size w)
 have H : (if a0_2 = true then ((some (([(⟨#[97, 112, 112]⟩ : ByteArray), (⟨#[101, 110, 118]⟩ : ByteArray), (⟨#[108, 118, 108]⟩ : ByteArray), (⟨#[100, 117, 114]⟩ : ByteArray), (⟨#[110]⟩ : ByteArray)] : List ByteArray) : List ByteArray)).bind fun y292 => (if 0 ≤ (Int.tmod a0_3 5) then (if (Int.tmod a0_3 5) < (y292.length : Int) then ((some (([(⟨#[97]⟩ : ByteArray), (⟨#[98]⟩ : ByteArray), (⟨#[120, 49]⟩ : ByteArray), (⟨#[53, 109]⟩ : ByteArray), (⟨#[55]⟩ : ByteArray), (⟨#[]⟩ : ByteArray), (⟨#[50, 75, 66]⟩ : ByteArray), (⟨#[97, 98]⟩ : ByteArray)] : List ByteArray) : List ByteArray)).bind fun y296 => (if 0 ≤ (((Int.tdiv a0_3 5) % 256) % 8) then (if (((Int.tdiv a0_3 5) % 256) % 8) < (y296.length : Int) then (some (rdOf ByteArray.empty y292 (Int.tmod a0_3 5), rdOf ByteArray.empty y296 (((Int.tdiv a0_3 5) % 256) % 8))) else (none)) else (none))) else (none)) else (none))) else (some (a0_0, a0_1))) = some (r1, r2) := h
 clear h
 by_cases c2 : a0_2 = true
 ·subst c2
  have H1 : ((some (([(⟨#[97, 112, 112]⟩ : ByteArray), (⟨#[101, 110, 118]⟩ : ByteArray), (⟨#[108, 118, 108]⟩ : ByteArray), (⟨#[100, 117, 114]⟩ : ByteArray), (⟨#[110]⟩ : ByteArray)] : List ByteArray) : List ByteArray)).bind fun y292 => (if 0 ≤ (Int.tmod a0_3 5) then (if (Int.tmod a0_3 5) < (y292.length : Int) then ((some (([(⟨#[97]⟩ : ByteArray), (⟨#[98]⟩ : ByteArray), (⟨#[120, 49]⟩ : ByteArray), (⟨#[53, 109]⟩ : ByteArray), (⟨#[55]⟩ : ByteArray), (⟨#[]⟩ : ByteArray), (⟨#[50, 75, 66]⟩ : ByteArray), (⟨#[97, 98]⟩ : ByteArray)] : List ByteArray) : List ByteArray)).bind fun y296 => (if 0 ≤ (((Int.tdiv a0_3 5) % 256) % 8) then (if (((Int.tdiv a0_3 5) % 256) % 8) < (y296.length : Int) then (some (rdOf ByteArray.empty y292 (Int.tmod a0_3 5), rdOf ByteArray.empty y296 (((Int.tdiv a0_3 5) % 256) % 8))) else (none)) else (none))) else (none)) else (none))) = some (r1, r2) := by rw [if_pos rfl] at H; exact H
  clear H
  have H := H1
  clear H1
  obtain ⟨y292, hy292⟩ : ∃ y_ : List ByteArray, y_ = (([(⟨#[97, 112, 112]⟩ : ByteArray), (⟨#[101, 110, 118]⟩ : ByteArray), (⟨#[108, 118, 108]⟩ : ByteArray), (⟨#[100, 117, 114]⟩ : ByteArray), (⟨#[110]⟩ : ByteArray)] : List ByteArray)) := ⟨_, rfl⟩
  replace H : (if 0 ≤ (Int.tmod a0_3 5) then (if (Int.tmod a0_3 5) < (y292.length : Int) then ((some (([(⟨#[97]⟩ : ByteArray), (⟨#[98]⟩ : ByteArray), (⟨#[120, 49]⟩ : ByteArray), (⟨#[53, 109]⟩ : ByteArray), (⟨#[55]⟩ : ByteArray), (⟨#[]⟩ : ByteArray), (⟨#[50, 75, 66]⟩ : ByteArray), (⟨#[97, 98]⟩ : ByteArray)] : List ByteArray) : List ByteArray)).bind fun y296 => (if 0 ≤ (((Int.tdiv a0_3 5) % 256) % 8) then (if (((Int.tdiv a0_3 5) % 256) % 8) < (y296.length : Int) then (some (rdOf ByteArray.empty y292 (Int.tmod a0_3 5), rdOf ByteArray.empty y296 (((Int.tdiv a0_3 5) % 256) % 8))) else (none)) else (none))) else (none)) else (none)) = some (r1, r2) := by first | (rw [hy292]; with_reducible exact H) | (have H2_ := (Option.bind_some _ _).symm.trans H; rw [hy292]; with_reducible exact H2_) | (have H2_ := (Option.bind_some _ _).symm.trans H; with_reducible exact H2_) | with_reducible exact H | (rw [hy292]; exact H) | exact H
  have Ny292 := Aside0.mk hy292
  clear hy292
  obtain ⟨ji3, hji3⟩ : ∃ j_ : Int, (Int.tmod a0_3 5) = j_ := ⟨_, rfl⟩
  replace H : (if 0 ≤ (ji3) then (if (ji3) < (y292.length : Int) then ((some (([(⟨#[97]⟩ : ByteArray), (⟨#[98]⟩ : ByteArray), (⟨#[120, 49]⟩ : ByteArray), (⟨#[53, 109]⟩ : ByteArray), (⟨#[55]⟩ : ByteArray), (⟨#[]⟩ : ByteArray), (⟨#[50, 75, 66]⟩ : ByteArray), (⟨#[97, 98]⟩ : ByteArray)] : List ByteArray) : List ByteArray)).bind fun y296 => (if 0 ≤ (((Int.tdiv a0_3 5) % 256) % 8) then (if (((Int.tdiv a0_3 5) % 256) % 8) < (y296.length : Int) then (some (rdOf ByteArray.empty y292 (ji3), rdOf ByteArray.empty y296 (((Int.tdiv a0_3 5) % 256) % 8))) else (none)) else (none))) else (none)) else (none)) = some (r1, r2) := by first | (rw [hji3] at H; exact H) | (simp only [hji3] at H ⊢; exact H)
  by_cases c4 : 0 ≤ (ji3)
  ·rw [if_pos c4] at H
   have c4b0 := decide_eq_true c4
   clear c4
   by_cases c5 : (ji3) < (y292.length : Int)
   ·rw [if_pos c5] at H
    have c5b0 := decide_eq_true c5
    clear c5
    obtain ⟨y296, hy296⟩ : ∃ y_ : List ByteArray, y_ = (([(⟨#[97]⟩ : ByteArray), (⟨#[98]⟩ : ByteArray), (⟨#[120, 49]⟩ : ByteArray), (⟨#[53, 109]⟩ : ByteArray), (⟨#[55]⟩ : ByteArray), (⟨#[]⟩ : ByteArray), (⟨#[50, 75, 66]⟩ : ByteArray), (⟨#[97, 98]⟩ : ByteArray)] : List ByteArray)) := ⟨_, rfl⟩
    replace H : (if 0 ≤ (((Int.tdiv a0_3 5) % 256) % 8) then (if (((Int.tdiv a0_3 5) % 256) % 8) < (y296.length : Int) then (some (rdOf ByteArray.empty y292 (ji3), rdOf ByteArray.empty y296 (((Int.tdiv a0_3 5) % 256) % 8))) else (none)) else (none)) = some (r1, r2) := by first | (rw [hy296]; with_reducible exact H) | (have H2_ := (Option.bind_some _ _).symm.trans H; rw [hy296]; with_reducible exact H2_) | (have H2_ := (Option.bind_some _ _).symm.trans H; with_reducible exact H2_) | with_reducible exact H | (rw [hy296]; exact H) | exact H
    have Ny296 := Aside0.mk hy296
    clear hy296
    obtain ⟨ji6, hji6⟩ : ∃ j_ : Int, (((Int.tdiv a0_3 5) % 256) % 8) = j_ := ⟨_, rfl⟩
    have hw_hji6 : Int.tmod ((Int.tdiv a0_3 5) % 256) 8 = ji6 := by rw [← hji6]; exact Int.tmod_eq_emod_of_nonneg (Int.emod_nonneg _ (by decide))
    replace H : (if 0 ≤ (ji6) then (if (ji6) < (y296.length : Int) then (some (rdOf ByteArray.empty y292 (ji3), rdOf ByteArray.empty y296 (ji6))) else (none)) else (none)) = some (r1, r2) := by first | (rw [hji6] at H; exact H) | (simp only [hji6] at H ⊢; exact H)
    by_cases c7 : 0 ≤ (ji6)
    ·rw [if_pos c7] at H
     have c7b0 := decide_eq_true c7
     clear c7
     by_cases c8 : (ji6) < (y296.length : Int)
     ·rw [if_pos c8] at H
      have c8b0 := decide_eq_true c8
      clear c8
      simp only [Option.some.injEq, Prod.mk.injEq] at H
      obtain ⟨rfl, rfl⟩ := H
      go_enter Try.func49, Try.ntmps49
      try go_wp2_with (first | ((with_reducible refine gate_dst (N := 1) rfl ?_); refine box_event ?hg (N := 1) ?hd (cs := #[.string a0_0, .string a0_1, .bool true, .int .u8 a0_3]) (t := 76) ?hr ?_; (case hd => rfl); (case hg => rfl); (case hr => first | (go_simp; done) | (go_simp; rfl)); intro gb290 hg w9 hbox hb; have n0_ := Aside0.mk (below_step bl hb); have n1_ := Aside0.mk (hbox); have n2_ := Aside0.mk ((by rw [hg]; exact (below_size bl) : w.heap.size ≤ gb290)); have n3_ := Aside0.mk ((by rw [hg]; exact (below_size bl) : w.heap.size ≤ gb290)); clear HB; have HB := n0_; have BK290 := n1_; have GW290 := n2_; have GE290 := n3_; clear n0_ n1_ n2_ n3_; clear hb hbox hg) | ((with_reducible refine gate_dst (N := 2) rfl ?_); refine box_event ?hg (N := 2) ?hd (cs := #[.string (⟨#[]⟩ : ByteArray), .string (⟨#[]⟩ : ByteArray)]) (t := 29) ?hr ?_; (case hd => rfl); (case hg => rfl); (case hr => first | (go_simp; done) | (go_simp; rfl)); intro gb291 hg w10 hbox hb; have n0_ := Aside0.mk (blk_below (g := gb290) (o := .cells #[.string a0_0, .string a0_1, .bool true, .int .u8 a0_3] 76 (0, 0)) (bz BK290.out) hb); have n1_ := Aside0.mk (below_step (by repeat (first | (with_reducible first | exact HB.out | apply below_alloc | apply pw_below_drewN | apply below_drew1 | refine below_set ?_ GE290.out) | exact HB.out)) hb); have n2_ := Aside0.mk (hbox); have n3_ := Aside0.mk ((by rw [hg]; exact (below_size (by repeat (first | (with_reducible first | exact HB.out | apply below_alloc | apply pw_below_drewN | apply below_drew1 | refine below_set ?_ GE290.out) | exact HB.out))) : w.heap.size ≤ gb291)); have n4_ := Aside0.mk ((by rw [hg]; exact (below_size (by repeat (first | (with_reducible first | exact HB.out | apply below_alloc | apply pw_below_drewN | apply below_drew1 | refine below_set ?_ GE290.out) | exact HB.out))) : w.heap.size ≤ gb291)); have n5_ := Aside0.mk ((by rw [hg]; exact Nat.ne_of_lt (blk_lt (g := gb290) (o := .cells #[.string a0_0, .string a0_1, .bool true, .int .u8 a0_3] 76 (0, 0)) (bz BK290.out)) : gb290 ≠ gb291)); have n6_ := Aside0.mk ((by rw [hg]; exact Nat.ne_of_gt (blk_lt (g := gb290) (o := .cells #[.string a0_0, .string a0_1, .bool true, .int .u8 a0_3] 76 (0, 0)) (bz BK290.out)) : gb291 ≠ gb290)); clear BK290; clear HB; have BK290 := n0_; have HB := n1_; have BK291 := n2_; have GW291 := n3_; have GE291 := n4_; have NB290_291 := n5_; have NB291_290 := n6_; clear n0_ n1_ n2_ n3_ n4_ n5_ n6_; clear hb hbox hg; have hnb11 := NB290_291.out; have hnc11 := NB291_290.out; have hcz12_0 : w10.cell? ⟨gb290, 0, none⟩ = some (.string a0_0) := (blk_cell BK290.out 0).trans rfl; have hcz12_1 : w10.cell? ⟨gb290, 1, none⟩ = some (.string a0_1) := (blk_cell BK290.out 1).trans rfl; have hcz12_2 : w10.cell? ⟨gb290, 2, none⟩ = some (.bool true) := (blk_cell BK290.out 2).trans rfl; have hcz12_3 : w10.cell? ⟨gb290, 3, none⟩ = some (.int .u8 a0_3) := (blk_cell BK290.out 3).trans rfl; have hfz12_0 := blk_frozen BK290.out 0; have hfz12_1 := blk_frozen BK290.out 1; have hfz12_2 := blk_frozen BK290.out 2; have hfz12_3 := blk_frozen BK290.out 3))
      have pi295 : (0 ≤ ((ji3) : Int)) = True := eq_true (od)
      have qi295 : ((ji3) < (y292.length : Int)) = True := eq_true (od)
      have pi299 : (0 ≤ ((ji6) : Int)) = True := eq_true (od)
      have qi299 : ((ji6) < (y296.length : Int)) = True := eq_true (od)
      have n0_ := Aside0.mk (blk_drew BK290.out)
      have n1_ := Aside0.mk (blk_drew BK291.out)
      have n2_ := Aside0.mk (below_drew1 HB.out)
      clear BK290
      clear BK291
      clear HB
      have BK290 := n0_
      have BK291 := n1_
      have HB := n2_
      clear n0_ n1_ n2_
      refine start_ (n := 15) (S := fun w' => True) (ds := []) #[N_,N_,N_,N_,N_,N_,N_,N_,N_,N_,N_,N_,N_,N_,N_] (by kernel_rfl) rfl rfl trivial (fun hHeld => ?_); refine with_tabW archivistlaw06_Tag_tag.tab3 archivistlaw06_Tag_tag.bits3 (fun HT_ HW_ => ?_)
      generalize w10.drew = w13 at BK290 BK291 HB hHeld ⊢
      refine pY 1 9 #[N_,J_,N_,N_,N_,N_,N_,N_,N_,N_,N_,N_,N_,N_,N_] HT_.out ?_
      refine pY 7 15 #[N_,J_,N_,N_,N_,N_,N_,J_,N_,N_,N_,N_,N_,N_,N_] HT_.out ?_
      refine inv_at [0, 2, 3, 4, 5, 6, 8, 9, 10, 11, 12, 13, 14] (fun a0_ b a w' => ∃ (v293 : Value) (adz_v293 : Addr) (v297 : Value) (adz_v297 : Addr) (m4_ : Value) (m11_ : Value), a = putSel a0_ b [(0, 8, v293), (2, 10, .int .u8 a0_3), (3, 11, .int .u8 ji3), (4, 12, m4_), (5, 13, .string (rdOf ByteArray.empty y292 (ji3))), (6, 14, v297), (8, 16, .int .u8 a0_3), (9, 17, .int .u8 ((Int.tdiv a0_3 5) % 256)), (10, 18, .int .u8 ji6), (11, 19, m11_), (12, 20, .string (rdOf ByteArray.empty y296 (ji6))), (13, 21, .agg #[.string (rdOf ByteArray.empty y292 (ji3)), .string (rdOf ByteArray.empty y296 (ji6))])] ∧ (w'.heap[gb290]? = some (.cells #[.string a0_0, .string a0_1, .bool true, .int .u8 a0_3] 76 (0, 0))) ∧ (b 14 = false → w'.heap[gb291]? = some (.cells #[.string (⟨#[]⟩ : ByteArray), .string (⟨#[]⟩ : ByteArray)] 29 (0, 0))) ∧ (Below w.heap.size w w') ∧ (b 0 = true → Kd.R Kd.string 9 w' w.heap.size (fun _ => True) v293 y292) ∧ (b 0 = true → ∃ c_, (v293 : Value) = .slice (some adz_v293) y292.length c_) ∧ (b 6 = true → Kd.R Kd.string 9 w' w.heap.size (fun _ => True) v297 y296) ∧ (b 6 = true → ∃ c_, (v297 : Value) = .slice (some adz_v297) y296.length c_) ∧ (b 14 = true → w'.heap[gb291]? = some (.cells #[.string (rdOf ByteArray.empty y292 (ji3)), .string (rdOf ByteArray.empty y296 (ji6))] 29 (0, 0))) ∧ (b 4 = true → (m4_ : Value) = .pointer (some (adz_v293.add ((ji3)).toNat))) ∧ (b 11 = true → (m11_ : Value) = .pointer (some (adz_v297.add ((ji6)).toNat)))) HT_.out HW_.out (by kernel_rfl) (by kernel_rfl) ?_ ?_ ?_
      ·exact ⟨.bool false, ⟨0, 0, none⟩, .bool false, ⟨0, 0, none⟩, .bool false, .bool false, by simp only [putSel, Bool.false_eq_true, if_false], BK290.out, fun _ => BK291.out, HB.out, fun h_ => absurd h_ (by decide), fun h_ => absurd h_ (by decide), fun h_ => absurd h_ (by decide), fun h_ => absurd h_ (by decide), fun h_ => absurd h_ (by decide), fun h_ => absurd h_ (by decide), fun h_ => absurd h_ (by decide)⟩
      ·skip
       clear BK290 BK291 HB
       refine steps_cons ?_ ?_
       ·rintro b a w' ⟨v293, adz_v293, v297, adz_v297, m4_, m11_, ha, Q_BK290, Q_BK291, Q_HB, Q_HO294, Q_HA_HO294, Q_HO298, Q_HA_HO298, Q_BK291_e14, Q_X4_, Q_X11_⟩ hb_ hon hoff
        refine ⟨_, rfl, fun K hK => ?_⟩
        replace ha := Aside0.mk ha
        have BK290 := Aside0.mk Q_BK290
        have BK291 := Aside0.mk (Q_BK291 (hoff 14 (by kernel_rfl)))
        have HB := Aside0.mk Q_HB
        refine Kd.R_lit_step Kd.string _ 9 ?hg (N := 8) ?hd (xs := ([(⟨#[97, 112, 112]⟩ : ByteArray), (⟨#[101, 110, 118]⟩ : ByteArray), (⟨#[108, 118, 108]⟩ : ByteArray), (⟨#[100, 117, 114]⟩ : ByteArray), (⟨#[110]⟩ : ByteArray)] : List ByteArray)) (inner := [.string (⟨#[97, 112, 112]⟩ : ByteArray), .string (⟨#[101, 110, 118]⟩ : ByteArray), .string (⟨#[108, 118, 108]⟩ : ByteArray), .string (⟨#[100, 117, 114]⟩ : ByteArray), .string (⟨#[110]⟩ : ByteArray)]) (ok := fun _ => True) (okp := fun _ => True) ?hr ?hp (fun _ hk => hk) trivial (Below.refl _ _) (Nat.le_refl _) (by simp) ?_; (case hd => rfl); (case hg => rfl); (case hr => first | (go_simp; done) | (go_simp; rfl)); (case hp => exact (Reps.one (show Kd.M Kd.string _ _ _ (⟨#[97, 112, 112]⟩ : ByteArray) [.string (⟨#[97, 112, 112]⟩ : ByteArray)] from rfl) (Reps.one (show Kd.M Kd.string _ _ _ (⟨#[101, 110, 118]⟩ : ByteArray) [.string (⟨#[101, 110, 118]⟩ : ByteArray)] from rfl) (Reps.one (show Kd.M Kd.string _ _ _ (⟨#[108, 118, 108]⟩ : ByteArray) [.string (⟨#[108, 118, 108]⟩ : ByteArray)] from rfl) (Reps.one (show Kd.M Kd.string _ _ _ (⟨#[100, 117, 114]⟩ : ByteArray) [.string (⟨#[100, 117, 114]⟩ : ByteArray)] from rfl) (Reps.one (show Kd.M Kd.string _ _ _ (⟨#[110]⟩ : ByteArray) [.string (⟨#[110]⟩ : ByteArray)] from rfl) (Reps.none _ _)))))))
        intro v293 w14 ho15 hb hg_ hnew_
        clear hg_ hnew_
        (first | rw [← Ny292.out] at ho15 | (simp only [Int.reduceToNat] at ho15; rw [← Ny292.out] at ho15))
        have n0_ := Aside0.mk (Kd.R_lower ho15 (below_size (by repeat (first | (with_reducible first | exact HB.out | apply below_alloc | apply pw_below_drewN | apply below_drew1 | refine below_set ?_ GE290.out | refine below_set ?_ GE291.out) | exact HB.out))))
        have n1_ := Aside0.mk (blk_below (g := gb290) (o := .cells #[.string a0_0, .string a0_1, .bool true, .int .u8 a0_3] 76 (0, 0)) (bz BK290.out) hb)
        have n2_ := Aside0.mk (blk_below (g := gb291) (o := .cells #[.string (⟨#[]⟩ : ByteArray), .string (⟨#[]⟩ : ByteArray)] 29 (0, 0)) (bz BK291.out) hb)
        have n3_ := Aside0.mk (below_step (by repeat (first | (with_reducible first | exact HB.out | apply below_alloc | apply pw_below_drewN | apply below_drew1 | refine below_set ?_ GE290.out | refine below_set ?_ GE291.out) | exact HB.out)) hb)
        have z_HO298 := fun (h0_ : b 6 = true) => (show Kd.R Kd.string 9 w14 w.heap.size (fun _ => True) v297 y296 from by first | exact (Kd.R_elder' (by (with_reducible repeat (first | apply Kd.R_alloc | apply Kd.R_drewN | apply Kd.R_drew)); exact (Q_HO298 h0_)) (Kd.R_base ho15) hb) | exact Kd.R_mono (Kd.R_elder' (by (with_reducible repeat (first | apply Kd.R_alloc | apply Kd.R_drewN | apply Kd.R_drew)); exact (Q_HO298 h0_)) (Kd.R_base ho15) hb) (fun _ h_ => by first | trivial | exact h_ | exact h_.1))
        clear BK290
        clear BK291
        clear HB
        have HO294 := n0_
        have BK290 := n1_
        have BK291 := n2_
        have HB := n3_
        clear n0_ n1_ n2_ n3_
        clear hb ho15
        obtain ⟨Ao16, co16, eo16⟩ := Kd.R_slice HO294.out
        subst eo16
        obtain ⟨ado16, fo16, _⟩ := Kd.at_string (Kd.R_reads' HO294.out).2.2 0 (by decide) (by rw [Ny292.out]; simp)
        cases fo16
        refine hK.out _ _ ⟨.slice (some ado16) y292.length co16, ado16, v297, adz_v297, m4_, m11_, (by rw [ha.out]; exact putSel_upk 0 hb_ rfl rfl rfl), (bz BK290.out), fun _ => (bz BK291.out), (by repeat (first | (with_reducible first | exact HB.out | apply below_alloc | apply pw_below_drewN | apply below_drew1 | refine below_set ?_ GE290.out | refine below_set ?_ GE291.out) | exact HB.out)), fun _ => (rz HO294.out), fun _ => ⟨_, rfl⟩, z_HO298, Q_HA_HO298, fun h0_ => absurd ((hoff 14 (by kernel_rfl)).symm.trans h0_) (by decide), fun h0_ => absurd ((hoff 4 (by kernel_rfl)).symm.trans h0_) (by decide), Q_X11_⟩
       refine steps_cons ?_ ?_
       ·rintro b a w' ⟨v293, adz_v293, v297, adz_v297, m4_, m11_, ha, Q_BK290, Q_BK291, Q_HB, Q_HO294, Q_HA_HO294, Q_HO298, Q_HA_HO298, Q_BK291_e14, Q_X4_, Q_X11_⟩ hb_ hon hoff
        refine ⟨_, rfl, fun K hK => ?_⟩
        have e9 : a.tmps[9]? = some (.pointer (some ⟨gb290, 3, none⟩)) := by rw [ha]; exact (putSel_off rfl).trans rfl
        replace ha := Aside0.mk ha
        have BK290 := Aside0.mk Q_BK290
        have BK291 := Aside0.mk (Q_BK291 (hoff 14 (by kernel_rfl)))
        have HB := Aside0.mk Q_HB
        have hc0_ : w'.cell? ⟨gb290, 0, none⟩ = some (.string a0_0) := (blk_cell BK290.out 0).trans rfl
        have hc1_ : w'.cell? ⟨gb290, 1, none⟩ = some (.string a0_1) := (blk_cell BK290.out 1).trans rfl
        have hc2_ : w'.cell? ⟨gb290, 2, none⟩ = some (.bool true) := (blk_cell BK290.out 2).trans rfl
        have hc3_ : w'.cell? ⟨gb290, 3, none⟩ = some (.int .u8 a0_3) := (blk_cell BK290.out 3).trans rfl
        refine value_ (w1 := w') (v := .int .u8 a0_3) (by rfl) rfl ?_ ?_
        ·go_simp
         (try simp only [i64_w])
         try rfl
        refine hK.out _ _ ⟨v293, adz_v293, v297, adz_v297, m4_, m11_, (by rw [ha.out]; exact putSel_upk 1 hb_ rfl rfl rfl), Q_BK290, Q_BK291, Q_HB, Q_HO294, Q_HA_HO294, Q_HO298, Q_HA_HO298, fun h0_ => absurd ((hoff 14 (by kernel_rfl)).symm.trans h0_) (by decide), fun h0_ => absurd ((hoff 4 (by kernel_rfl)).symm.trans h0_) (by decide), Q_X11_⟩
       refine steps_cons ?_ ?_
       ·rintro b a w' ⟨v293, adz_v293, v297, adz_v297, m4_, m11_, ha, Q_BK290, Q_BK291, Q_HB, Q_HO294, Q_HA_HO294, Q_HO298, Q_HA_HO298, Q_BK291_e14, Q_X4_, Q_X11_⟩ hb_ hon hoff
        refine ⟨_, rfl, fun K hK => ?_⟩
        have e10 : a.tmps[10]? = some (.int .u8 a0_3) := by rw [ha]; exact putSel_on (e := (2, 10, .int .u8 a0_3)) 1 rfl rfl (hon 2 (by kernel_rfl)) rfl
        replace ha := Aside0.mk ha
        have BK290 := Aside0.mk Q_BK290
        have BK291 := Aside0.mk (Q_BK291 (hoff 14 (by kernel_rfl)))
        have HB := Aside0.mk Q_HB
        refine value_ (w1 := w') (v := .int .u8 ji3) (by rfl) rfl ?_ ?_
        ·go_simp
         (try simp only [i64_w])
         try rfl
        refine hK.out _ _ ⟨v293, adz_v293, v297, adz_v297, m4_, m11_, (by rw [ha.out]; exact putSel_upk 2 hb_ rfl rfl rfl), Q_BK290, Q_BK291, Q_HB, Q_HO294, Q_HA_HO294, Q_HO298, Q_HA_HO298, fun h0_ => absurd ((hoff 14 (by kernel_rfl)).symm.trans h0_) (by decide), fun h0_ => absurd ((hoff 4 (by kernel_rfl)).symm.trans h0_) (by decide), Q_X11_⟩
       refine steps_cons ?_ ?_
       ·rintro b a w' ⟨v293, adz_v293, v297, adz_v297, m4_, m11_, ha, Q_BK290, Q_BK291, Q_HB, Q_HO294, Q_HA_HO294, Q_HO298, Q_HA_HO298, Q_BK291_e14, Q_X4_, Q_X11_⟩ hb_ hon hoff
        refine ⟨_, rfl, fun K hK => ?_⟩
        have e8 : a.tmps[8]? = some (v293) := by rw [ha]; exact putSel_on (e := (0, 8, v293)) 0 rfl rfl (hon 0 (by kernel_rfl)) rfl
        have e11 : a.tmps[11]? = some (.int .u8 ji3) := by rw [ha]; exact putSel_on (e := (3, 11, .int .u8 ji3)) 2 rfl rfl (hon 3 (by kernel_rfl)) rfl
        replace ha := Aside0.mk ha
        have BK290 := Aside0.mk Q_BK290
        have BK291 := Aside0.mk (Q_BK291 (hoff 14 (by kernel_rfl)))
        have HB := Aside0.mk Q_HB
        have HO294 := Aside0.mk (Q_HO294 (hon 0 (by kernel_rfl)))
        have HA_HO294 := Aside0.mk (Q_HA_HO294 (hon 0 (by kernel_rfl)))
        obtain ⟨c_, hv_⟩ := HA_HO294.out
        rw [hv_] at e8
        refine value_ (w1 := w') (v := .pointer (some (adz_v293.add ((ji3)).toNat))) (by rfl) rfl ?_ ?_
        ·go_simp
         (try simp only [i64_w])
         try rfl
        refine hK.out _ _ ⟨v293, adz_v293, v297, adz_v297, (.pointer (some (adz_v293.add ((ji3)).toNat))), m11_, (by rw [ha.out]; exact putSel_upk 3 hb_ rfl rfl rfl), Q_BK290, Q_BK291, Q_HB, Q_HO294, Q_HA_HO294, Q_HO298, Q_HA_HO298, fun h0_ => absurd ((hoff 14 (by kernel_rfl)).symm.trans h0_) (by decide), fun _ => rfl, Q_X11_⟩
       refine steps_cons ?_ ?_
       ·rintro b a w' ⟨v293, adz_v293, v297, adz_v297, m4_, m11_, ha, Q_BK290, Q_BK291, Q_HB, Q_HO294, Q_HA_HO294, Q_HO298, Q_HA_HO298, Q_BK291_e14, Q_X4_, Q_X11_⟩ hb_ hon hoff
        refine ⟨_, rfl, fun K hK => ?_⟩
        have e12 : a.tmps[12]? = some (m4_) := by rw [ha]; exact putSel_on (e := (4, 12, m4_)) 3 rfl rfl (hon 4 (by kernel_rfl)) rfl
        rw [Q_X4_ (hon 4 (by kernel_rfl))] at e12
        replace ha := Aside0.mk ha
        have BK290 := Aside0.mk Q_BK290
        have BK291 := Aside0.mk (Q_BK291 (hoff 14 (by kernel_rfl)))
        have HB := Aside0.mk Q_HB
        have HO294 := Aside0.mk (Q_HO294 (hon 0 (by kernel_rfl)))
        have HA_HO294 := Aside0.mk (Q_HA_HO294 (hon 0 (by kernel_rfl)))
        obtain ⟨c_, hv_⟩ := HA_HO294.out
        have hF_ := HO294.out
        rw [hv_] at hF_
        obtain ⟨ad_, ea_, hx_⟩ := Kd.at_string (Kd.R_reads' hF_).2.2 (ji3) (of_eq_true pi295) (of_eq_true qi295)
        cases ea_
        refine value_ (w1 := w') (v := .string (rdOf ByteArray.empty y292 (ji3))) (by rfl) rfl ?_ ?_
        ·go_simp
         (try simp only [i64_w])
         try rfl
        refine hK.out _ _ ⟨v293, adz_v293, v297, adz_v297, m4_, m11_, (by rw [ha.out]; exact putSel_upk 4 hb_ rfl rfl rfl), Q_BK290, Q_BK291, Q_HB, Q_HO294, Q_HA_HO294, Q_HO298, Q_HA_HO298, fun h0_ => absurd ((hoff 14 (by kernel_rfl)).symm.trans h0_) (by decide), Q_X4_, Q_X11_⟩
       refine steps_cons ?_ ?_
       ·rintro b a w' ⟨v293, adz_v293, v297, adz_v297, m4_, m11_, ha, Q_BK290, Q_BK291, Q_HB, Q_HO294, Q_HA_HO294, Q_HO298, Q_HA_HO298, Q_BK291_e14, Q_X4_, Q_X11_⟩ hb_ hon hoff
        refine ⟨_, rfl, fun K hK => ?_⟩
        replace ha := Aside0.mk ha
        have BK290 := Aside0.mk Q_BK290
        have BK291 := Aside0.mk (Q_BK291 (hoff 14 (by kernel_rfl)))
        have HB := Aside0.mk Q_HB
        refine Kd.R_lit_step Kd.string _ 9 ?hg (N := 14) ?hd (xs := ([(⟨#[97]⟩ : ByteArray), (⟨#[98]⟩ : ByteArray), (⟨#[120, 49]⟩ : ByteArray), (⟨#[53, 109]⟩ : ByteArray), (⟨#[55]⟩ : ByteArray), (⟨#[]⟩ : ByteArray), (⟨#[50, 75, 66]⟩ : ByteArray), (⟨#[97, 98]⟩ : ByteArray)] : List ByteArray)) (inner := [.string (⟨#[97]⟩ : ByteArray), .string (⟨#[98]⟩ : ByteArray), .string (⟨#[120, 49]⟩ : ByteArray), .string (⟨#[53, 109]⟩ : ByteArray), .string (⟨#[55]⟩ : ByteArray), .string (⟨#[]⟩ : ByteArray), .string (⟨#[50, 75, 66]⟩ : ByteArray), .string (⟨#[97, 98]⟩ : ByteArray)]) (ok := fun _ => True) (okp := fun _ => True) ?hr ?hp (fun _ hk => hk) trivial (Below.refl _ _) (Nat.le_refl _) (by simp) ?_; (case hd => rfl); (case hg => rfl); (case hr => first | (go_simp; done) | (go_simp; rfl)); (case hp => exact (Reps.one (show Kd.M Kd.string _ _ _ (⟨#[97]⟩ : ByteArray) [.string (⟨#[97]⟩ : ByteArray)] from rfl) (Reps.one (show Kd.M Kd.string _ _ _ (⟨#[98]⟩ : ByteArray) [.string (⟨#[98]⟩ : ByteArray)] from rfl) (Reps.one (show Kd.M Kd.string _ _ _ (⟨#[120, 49]⟩ : ByteArray) [.string (⟨#[120, 49]⟩ : ByteArray)] from rfl) (Reps.one (show Kd.M Kd.string _ _ _ (⟨#[53, 109]⟩ : ByteArray) [.string (⟨#[53, 109]⟩ : ByteArray)] from rfl) (Reps.one (show Kd.M Kd.string _ _ _ (⟨#[55]⟩ : ByteArray) [.string (⟨#[55]⟩ : ByteArray)] from rfl) (Reps.one (show Kd.M Kd.string _ _ _ (⟨#[]⟩ : ByteArray) [.string (⟨#[]⟩ : ByteArray)] from rfl) (Reps.one (show Kd.M Kd.string _ _ _ (⟨#[50, 75, 66]⟩ : ByteArray) [.string (⟨#[50, 75, 66]⟩ : ByteArray)] from rfl) (Reps.one (show Kd.M Kd.string _ _ _ (⟨#[97, 98]⟩ : ByteArray) [.string (⟨#[97, 98]⟩ : ByteArray)] from rfl) (Reps.none _ _))))))))))
        intro v297 w14 ho15 hb hg_ hnew_
        clear hg_ hnew_
        (first | rw [← Ny296.out] at ho15 | (simp only [Int.reduceToNat] at ho15; rw [← Ny296.out] at ho15))
        have n0_ := Aside0.mk (Kd.R_lower ho15 (below_size (by repeat (first | (with_reducible first | exact HB.out | apply below_alloc | apply pw_below_drewN | apply below_drew1 | refine below_set ?_ GE290.out | refine below_set ?_ GE291.out) | exact HB.out))))
        have n1_ := Aside0.mk (blk_below (g := gb290) (o := .cells #[.string a0_0, .string a0_1, .bool true, .int .u8 a0_3] 76 (0, 0)) (bz BK290.out) hb)
        have n2_ := Aside0.mk (blk_below (g := gb291) (o := .cells #[.string (⟨#[]⟩ : ByteArray), .string (⟨#[]⟩ : ByteArray)] 29 (0, 0)) (bz BK291.out) hb)
        have n3_ := Aside0.mk (below_step (by repeat (first | (with_reducible first | exact HB.out | apply below_alloc | apply pw_below_drewN | apply below_drew1 | refine below_set ?_ GE290.out | refine below_set ?_ GE291.out) | exact HB.out)) hb)
        have z_HO294 := fun (h0_ : b 0 = true) => (show Kd.R Kd.string 9 w14 w.heap.size (fun _ => True) v293 y292 from by first | exact (Kd.R_elder' (by (with_reducible repeat (first | apply Kd.R_alloc | apply Kd.R_drewN | apply Kd.R_drew)); exact (Q_HO294 h0_)) (Kd.R_base ho15) hb) | exact Kd.R_mono (Kd.R_elder' (by (with_reducible repeat (first | apply Kd.R_alloc | apply Kd.R_drewN | apply Kd.R_drew)); exact (Q_HO294 h0_)) (Kd.R_base ho15) hb) (fun _ h_ => by first | trivial | exact h_ | exact h_.1))
        clear BK290
        clear BK291
        clear HB
        have HO298 := n0_
        have BK290 := n1_
        have BK291 := n2_
        have HB := n3_
        clear n0_ n1_ n2_ n3_
        clear hb ho15
        obtain ⟨Ao16, co16, eo16⟩ := Kd.R_slice HO298.out
        subst eo16
        obtain ⟨ado16, fo16, _⟩ := Kd.at_string (Kd.R_reads' HO298.out).2.2 0 (by decide) (by rw [Ny296.out]; simp)
        cases fo16
        refine hK.out _ _ ⟨v293, adz_v293, .slice (some ado16) y296.length co16, ado16, m4_, m11_, (by rw [ha.out]; exact putSel_upk 5 hb_ rfl rfl rfl), (bz BK290.out), fun _ => (bz BK291.out), (by repeat (first | (with_reducible first | exact HB.out | apply below_alloc | apply pw_below_drewN | apply below_drew1 | refine below_set ?_ GE290.out | refine below_set ?_ GE291.out) | exact HB.out)), z_HO294, Q_HA_HO294, fun _ => (rz HO298.out), fun _ => ⟨_, rfl⟩, fun h0_ => absurd ((hoff 14 (by kernel_rfl)).symm.trans h0_) (by decide), Q_X4_, fun h0_ => absurd ((hoff 11 (by kernel_rfl)).symm.trans h0_) (by decide)⟩
       refine steps_cons ?_ ?_
       ·rintro b a w' ⟨v293, adz_v293, v297, adz_v297, m4_, m11_, ha, Q_BK290, Q_BK291, Q_HB, Q_HO294, Q_HA_HO294, Q_HO298, Q_HA_HO298, Q_BK291_e14, Q_X4_, Q_X11_⟩ hb_ hon hoff
        refine ⟨_, rfl, fun K hK => ?_⟩
        have e15 : a.tmps[15]? = some (.pointer (some ⟨gb290, 3, none⟩)) := by rw [ha]; exact (putSel_off rfl).trans rfl
        replace ha := Aside0.mk ha
        have BK290 := Aside0.mk Q_BK290
        have BK291 := Aside0.mk (Q_BK291 (hoff 14 (by kernel_rfl)))
        have HB := Aside0.mk Q_HB
        have hc0_ : w'.cell? ⟨gb290, 0, none⟩ = some (.string a0_0) := (blk_cell BK290.out 0).trans rfl
        have hc1_ : w'.cell? ⟨gb290, 1, none⟩ = some (.string a0_1) := (blk_cell BK290.out 1).trans rfl
        have hc2_ : w'.cell? ⟨gb290, 2, none⟩ = some (.bool true) := (blk_cell BK290.out 2).trans rfl
        have hc3_ : w'.cell? ⟨gb290, 3, none⟩ = some (.int .u8 a0_3) := (blk_cell BK290.out 3).trans rfl
        refine value_ (w1 := w') (v := .int .u8 a0_3) (by rfl) rfl ?_ ?_
        ·go_simp
         (try simp only [i64_w])
         try rfl
        refine hK.out _ _ ⟨v293, adz_v293, v297, adz_v297, m4_, m11_, (by rw [ha.out]; exact putSel_upk 6 hb_ rfl rfl rfl), Q_BK290, Q_BK291, Q_HB, Q_HO294, Q_HA_HO294, Q_HO298, Q_HA_HO298, fun h0_ => absurd ((hoff 14 (by kernel_rfl)).symm.trans h0_) (by decide), Q_X4_, fun h0_ => absurd ((hoff 11 (by kernel_rfl)).symm.trans h0_) (by decide)⟩
       refine steps_cons ?_ ?_
       ·rintro b a w' ⟨v293, adz_v293, v297, adz_v297, m4_, m11_, ha, Q_BK290, Q_BK291, Q_HB, Q_HO294, Q_HA_HO294, Q_HO298, Q_HA_HO298, Q_BK291_e14, Q_X4_, Q_X11_⟩ hb_ hon hoff
        refine ⟨_, rfl, fun K hK => ?_⟩
        have e16 : a.tmps[16]? = some (.int .u8 a0_3) := by rw [ha]; exact putSel_on (e := (8, 16, .int .u8 a0_3)) 6 rfl rfl (hon 8 (by kernel_rfl)) rfl
        replace ha := Aside0.mk ha
        have BK290 := Aside0.mk Q_BK290
        have BK291 := Aside0.mk (Q_BK291 (hoff 14 (by kernel_rfl)))
        have HB := Aside0.mk Q_HB
        refine value_ (w1 := w') (v := .int .u8 ((Int.tdiv a0_3 5) % 256)) (by rfl) rfl ?_ ?_
        ·go_simp
         (try simp only [i64_w])
         try rfl
        refine hK.out _ _ ⟨v293, adz_v293, v297, adz_v297, m4_, m11_, (by rw [ha.out]; exact putSel_upk 7 hb_ rfl rfl rfl), Q_BK290, Q_BK291, Q_HB, Q_HO294, Q_HA_HO294, Q_HO298, Q_HA_HO298, fun h0_ => absurd ((hoff 14 (by kernel_rfl)).symm.trans h0_) (by decide), Q_X4_, fun h0_ => absurd ((hoff 11 (by kernel_rfl)).symm.trans h0_) (by decide)⟩
       refine steps_cons ?_ ?_
       ·rintro b a w' ⟨v293, adz_v293, v297, adz_v297, m4_, m11_, ha, Q_BK290, Q_BK291, Q_HB, Q_HO294, Q_HA_HO294, Q_HO298, Q_HA_HO298, Q_BK291_e14, Q_X4_, Q_X11_⟩ hb_ hon hoff
        refine ⟨_, rfl, fun K hK => ?_⟩
        have e17 : a.tmps[17]? = some (.int .u8 ((Int.tdiv a0_3 5) % 256)) := by rw [ha]; exact putSel_on (e := (9, 17, .int .u8 ((Int.tdiv a0_3 5) % 256))) 7 rfl rfl (hon 9 (by kernel_rfl)) rfl
        replace ha := Aside0.mk ha
        have BK290 := Aside0.mk Q_BK290
        have BK291 := Aside0.mk (Q_BK291 (hoff 14 (by kernel_rfl)))
        have HB := Aside0.mk Q_HB
        refine value_ (w1 := w') (v := .int .u8 ji6) (by rfl) rfl ?_ ?_
        ·go_simp
         (try simp only [i64_w])
         try rfl
        refine hK.out _ _ ⟨v293, adz_v293, v297, adz_v297, m4_, m11_, (by rw [ha.out]; exact putSel_upk 8 hb_ rfl rfl rfl), Q_BK290, Q_BK291, Q_HB, Q_HO294, Q_HA_HO294, Q_HO298, Q_HA_HO298, fun h0_ => absurd ((hoff 14 (by kernel_rfl)).symm.trans h0_) (by decide), Q_X4_, fun h0_ => absurd ((hoff 11 (by kernel_rfl)).symm.trans h0_) (by decide)⟩
       refine steps_cons ?_ ?_
       ·rintro b a w' ⟨v293, adz_v293, v297, adz_v297, m4_, m11_, ha, Q_BK290, Q_BK291, Q_HB, Q_HO294, Q_HA_HO294, Q_HO298, Q_HA_HO298, Q_BK291_e14, Q_X4_, Q_X11_⟩ hb_ hon hoff
        refine ⟨_, rfl, fun K hK => ?_⟩
        have e14 : a.tmps[14]? = some (v297) := by rw [ha]; exact putSel_on (e := (6, 14, v297)) 5 rfl rfl (hon 6 (by kernel_rfl)) rfl
        have e18 : a.tmps[18]? = some (.int .u8 ji6) := by rw [ha]; exact putSel_on (e := (10, 18, .int .u8 ji6)) 8 rfl rfl (hon 10 (by kernel_rfl)) rfl
        replace ha := Aside0.mk ha
        have BK290 := Aside0.mk Q_BK290
        have BK291 := Aside0.mk (Q_BK291 (hoff 14 (by kernel_rfl)))
        have HB := Aside0.mk Q_HB
        have HO298 := Aside0.mk (Q_HO298 (hon 6 (by kernel_rfl)))
        have HA_HO298 := Aside0.mk (Q_HA_HO298 (hon 6 (by kernel_rfl)))
        obtain ⟨c_, hv_⟩ := HA_HO298.out
        rw [hv_] at e14
        refine value_ (w1 := w') (v := .pointer (some (adz_v297.add ((ji6)).toNat))) (by rfl) rfl ?_ ?_
        ·go_simp
         (try simp only [i64_w])
         try rfl
        refine hK.out _ _ ⟨v293, adz_v293, v297, adz_v297, m4_, (.pointer (some (adz_v297.add ((ji6)).toNat))), (by rw [ha.out]; exact putSel_upk 9 hb_ rfl rfl rfl), Q_BK290, Q_BK291, Q_HB, Q_HO294, Q_HA_HO294, Q_HO298, Q_HA_HO298, fun h0_ => absurd ((hoff 14 (by kernel_rfl)).symm.trans h0_) (by decide), Q_X4_, fun _ => rfl⟩
       refine steps_cons ?_ ?_
       ·rintro b a w' ⟨v293, adz_v293, v297, adz_v297, m4_, m11_, ha, Q_BK290, Q_BK291, Q_HB, Q_HO294, Q_HA_HO294, Q_HO298, Q_HA_HO298, Q_BK291_e14, Q_X4_, Q_X11_⟩ hb_ hon hoff
        refine ⟨_, rfl, fun K hK => ?_⟩
        have e19 : a.tmps[19]? = some (m11_) := by rw [ha]; exact putSel_on (e := (11, 19, m11_)) 9 rfl rfl (hon 11 (by kernel_rfl)) rfl
        rw [Q_X11_ (hon 11 (by kernel_rfl))] at e19
        replace ha := Aside0.mk ha
        have BK290 := Aside0.mk Q_BK290
        have BK291 := Aside0.mk (Q_BK291 (hoff 14 (by kernel_rfl)))
        have HB := Aside0.mk Q_HB
        have HO298 := Aside0.mk (Q_HO298 (hon 6 (by kernel_rfl)))
        have HA_HO298 := Aside0.mk (Q_HA_HO298 (hon 6 (by kernel_rfl)))
        obtain ⟨c_, hv_⟩ := HA_HO298.out
        have hF_ := HO298.out
        rw [hv_] at hF_
        obtain ⟨ad_, ea_, hx_⟩ := Kd.at_string (Kd.R_reads' hF_).2.2 (ji6) (of_eq_true pi299) (of_eq_true qi299)
        cases ea_
        refine value_ (w1 := w') (v := .string (rdOf ByteArray.empty y296 (ji6))) (by rfl) rfl ?_ ?_
        ·go_simp
         (try simp only [i64_w])
         try rfl
        refine hK.out _ _ ⟨v293, adz_v293, v297, adz_v297, m4_, m11_, (by rw [ha.out]; exact putSel_upk 10 hb_ rfl rfl rfl), Q_BK290, Q_BK291, Q_HB, Q_HO294, Q_HA_HO294, Q_HO298, Q_HA_HO298, fun h0_ => absurd ((hoff 14 (by kernel_rfl)).symm.trans h0_) (by decide), Q_X4_, Q_X11_⟩
       refine steps_cons ?_ ?_
       ·rintro b a w' ⟨v293, adz_v293, v297, adz_v297, m4_, m11_, ha, Q_BK290, Q_BK291, Q_HB, Q_HO294, Q_HA_HO294, Q_HO298, Q_HA_HO298, Q_BK291_e14, Q_X4_, Q_X11_⟩ hb_ hon hoff
        refine ⟨_, rfl, fun K hK => ?_⟩
        have e13 : a.tmps[13]? = some (.string (rdOf ByteArray.empty y292 (ji3))) := by rw [ha]; exact putSel_on (e := (5, 13, .string (rdOf ByteArray.empty y292 (ji3)))) 4 rfl rfl (hon 5 (by kernel_rfl)) rfl
        have e20 : a.tmps[20]? = some (.string (rdOf ByteArray.empty y296 (ji6))) := by rw [ha]; exact putSel_on (e := (12, 20, .string (rdOf ByteArray.empty y296 (ji6)))) 10 rfl rfl (hon 12 (by kernel_rfl)) rfl
        replace ha := Aside0.mk ha
        have BK290 := Aside0.mk Q_BK290
        have BK291 := Aside0.mk (Q_BK291 (hoff 14 (by kernel_rfl)))
        have HB := Aside0.mk Q_HB
        have HO294 := Aside0.mk (Q_HO294 (hon 0 (by kernel_rfl)))
        have HA_HO294 := Aside0.mk (Q_HA_HO294 (hon 0 (by kernel_rfl)))
        have HO298 := Aside0.mk (Q_HO298 (hon 6 (by kernel_rfl)))
        have HA_HO298 := Aside0.mk (Q_HA_HO298 (hon 6 (by kernel_rfl)))
        refine value_ (w1 := w') (v := .agg #[.string (rdOf ByteArray.empty y292 (ji3)), .string (rdOf ByteArray.empty y296 (ji6))]) (by rfl) rfl ?_ ?_
        ·go_simp
         (try simp only [i64_w])
         try rfl
        refine hK.out _ _ ⟨v293, adz_v293, v297, adz_v297, m4_, m11_, (by rw [ha.out]; exact putSel_upk 11 hb_ rfl rfl rfl), Q_BK290, Q_BK291, Q_HB, Q_HO294, Q_HA_HO294, Q_HO298, Q_HA_HO298, fun h0_ => absurd ((hoff 14 (by kernel_rfl)).symm.trans h0_) (by decide), Q_X4_, Q_X11_⟩
       refine steps_cons ?_ ?_
       ·rintro b a w' ⟨v293, adz_v293, v297, adz_v297, m4_, m11_, ha, Q_BK290, Q_BK291, Q_HB, Q_HO294, Q_HA_HO294, Q_HO298, Q_HA_HO298, Q_BK291_e14, Q_X4_, Q_X11_⟩ hb_ hon hoff
        refine ⟨_, rfl, fun K hK => ?_⟩
        have e2 : a.tmps[2]? = some (.pointer (some ⟨gb291, 0, none⟩)) := by rw [ha]; exact (putSel_off rfl).trans rfl
        have e21 : a.tmps[21]? = some (.agg #[.string (rdOf ByteArray.empty y292 (ji3)), .string (rdOf ByteArray.empty y296 (ji6))]) := by rw [ha]; exact putSel_on (e := (13, 21, .agg #[.string (rdOf ByteArray.empty y292 (ji3)), .string (rdOf ByteArray.empty y296 (ji6))])) 11 rfl rfl (hon 13 (by kernel_rfl)) rfl
        replace ha := Aside0.mk ha
        have BK290 := Aside0.mk Q_BK290
        have BK291 := Aside0.mk (Q_BK291 hb_)
        have HB := Aside0.mk Q_HB
        have HO294 := Aside0.mk (Q_HO294 (hon 0 (by kernel_rfl)))
        have HA_HO294 := Aside0.mk (Q_HA_HO294 (hon 0 (by kernel_rfl)))
        have HO298 := Aside0.mk (Q_HO298 (hon 6 (by kernel_rfl)))
        have HA_HO298 := Aside0.mk (Q_HA_HO298 (hon 6 (by kernel_rfl)))
        obtain ⟨co21, eo21⟩ := HA_HO294.out
        clear HA_HO294
        subst eo21
        obtain ⟨co22, eo22⟩ := HA_HO298.out
        clear HA_HO298
        subst eo22
        have hs23 : w'.cell? ⟨gb291, 0, none⟩ = some (.string (⟨#[]⟩ : ByteArray)) := (blk_cell BK291.out 0).trans rfl
        have hfs23 := blk_frozen BK291.out 0
        have hns23_0 := NB290_291.out
        have hms23_0 := NB291_290.out
        have hs24 : w'.cell? ⟨gb291, 1, none⟩ = some (.string (⟨#[]⟩ : ByteArray)) := (blk_cell BK291.out 1).trans rfl
        have hfs24 := blk_frozen BK291.out 1
        have hns24_0 := NB290_291.out
        have hms24_0 := NB291_290.out
        refine skip_ (w1 := ?_) (by rfl) rfl ?_ ?_
        rotate_left
        ·go_simp
         rfl
        refine hK.out _ _ ⟨.slice (some adz_v293) y292.length co21, adz_v293, .slice (some adz_v297) y296.length co22, adz_v297, m4_, m11_, (by rw [ha.out]; exact putSel_none (v := undef) rfl), (by (with_reducible repeat (first | refine blk_drewN ?_ _ | refine blk_drew ?_ | refine blk_alloc ?_ _)); refine blk_far ?_ NB290_291.out _; (with_reducible repeat (first | refine blk_drewN ?_ _ | refine blk_drew ?_ | refine blk_alloc ?_ _)); refine blk_far ?_ NB290_291.out _; (with_reducible repeat (first | refine blk_drewN ?_ _ | refine blk_drew ?_ | refine blk_alloc ?_ _)); exact BK290.out), fun h0_ => absurd ((up_self b 14).symm.trans h0_) (by decide), (by repeat (first | (with_reducible first | exact HB.out | apply below_alloc | apply pw_below_drewN | apply below_drew1 | refine below_set ?_ GE290.out | refine below_set ?_ GE291.out) | exact HB.out)), fun _ => (by (with_reducible repeat (first | apply Kd.R_alloc | apply Kd.R_drewN | apply Kd.R_drew)); exact Kd.R_mono (Kd.R_far (p := ⟨gb291, 1, none⟩) (Kd.R_far (p := ⟨gb291, 0, none⟩) (Kd.R_types HO294.out BK291.out (by decide)) (fun _ hk => hk.2) (.string (rdOf ByteArray.empty y292 (ji3)))) (fun _ hk => hk.2) (.string (rdOf ByteArray.empty y296 (ji6)))) (fun _ hk => hk.1)), fun _ => ⟨_, rfl⟩, fun _ => (by (with_reducible repeat (first | apply Kd.R_alloc | apply Kd.R_drewN | apply Kd.R_drew)); exact Kd.R_mono (Kd.R_far (p := ⟨gb291, 1, none⟩) (Kd.R_far (p := ⟨gb291, 0, none⟩) (Kd.R_types HO298.out BK291.out (by decide)) (fun _ hk => hk.2) (.string (rdOf ByteArray.empty y292 (ji3)))) (fun _ hk => hk.2) (.string (rdOf ByteArray.empty y296 (ji6)))) (fun _ hk => hk.1)), fun _ => ⟨_, rfl⟩, fun _ => (by (with_reducible repeat (first | refine blk_drewN ?_ _ | refine blk_drew ?_ | refine blk_alloc ?_ _)); refine blk_put (cs := #[.string (rdOf ByteArray.empty y292 (ji3)), .string (⟨#[]⟩ : ByteArray)]) ?_ 1 _ rfl; (with_reducible repeat (first | refine blk_drewN ?_ _ | refine blk_drew ?_ | refine blk_alloc ?_ _)); refine blk_put (cs := #[.string (⟨#[]⟩ : ByteArray), .string (⟨#[]⟩ : ByteArray)]) ?_ 0 _ rfl; (with_reducible repeat (first | refine blk_drewN ?_ _ | refine blk_drew ?_ | refine blk_alloc ?_ _)); exact BK291.out), Q_X4_, Q_X11_⟩
       exact steps_nil
      rintro b a w22 hall ⟨v293, adz_v293, v297, adz_v297, m4_, m11_, ha, Q_BK290, Q_BK291, Q_HB, Q_HO294, Q_HA_HO294, Q_HO298, Q_HA_HO298, Q_BK291_e14, Q_X4_, Q_X11_⟩
      clear BK290 BK291 HB
      have hb0_ := hall 0 (by kernel_rfl)
      have hb2_ := hall 2 (by kernel_rfl)
      have hb3_ := hall 3 (by kernel_rfl)
      have hb4_ := hall 4 (by kernel_rfl)
      have hb5_ := hall 5 (by kernel_rfl)
      have hb6_ := hall 6 (by kernel_rfl)
      have hb8_ := hall 8 (by kernel_rfl)
      have hb9_ := hall 9 (by kernel_rfl)
      have hb10_ := hall 10 (by kernel_rfl)
      have hb11_ := hall 11 (by kernel_rfl)
      have hb12_ := hall 12 (by kernel_rfl)
      have hb13_ := hall 13 (by kernel_rfl)
      have hb14_ := hall 14 (by kernel_rfl)
      subst ha
      obtain rfl := Q_X4_ hb4_
      obtain rfl := Q_X11_ hb11_
      simp only [putSel, hb0_, hb2_, hb3_, hb4_, hb5_, hb6_, hb8_, hb9_, hb10_, hb11_, hb12_, hb13_, hb14_, if_true, Act.put, List.setIfInBounds_toArray, List.set_cons_zero, List.set_cons_succ]
      have BK290 := Aside0.mk Q_BK290
      clear Q_BK290
      clear Q_BK291
      have HB := Aside0.mk Q_HB
      clear Q_HB
      have HO294 := Aside0.mk (Q_HO294 hb0_)
      clear Q_HO294
      have HA_HO294 := Aside0.mk (Q_HA_HO294 hb0_)
      clear Q_HA_HO294
      have HO298 := Aside0.mk (Q_HO298 hb6_)
      clear Q_HO298
      have HA_HO298 := Aside0.mk (Q_HA_HO298 hb6_)
      clear Q_HA_HO298
      have BK291 := Aside0.mk (Q_BK291_e14 hb14_)
      clear Q_BK291_e14
      clear hall hb0_ hb2_ hb3_ hb4_ hb5_ hb6_ hb8_ hb9_ hb10_ hb11_ hb12_ hb13_ hb14_
      obtain ⟨co23, eo23⟩ := HA_HO294.out
      clear HA_HO294
      subst eo23
      obtain ⟨co24, eo24⟩ := HA_HO298.out
      clear HA_HO298
      subst eo24
      try go_wp2
      refine bodyPost_ret (results_cell_row rfl _ _ gb291 29 #[.string (rdOf ByteArray.empty y292 (ji3)), .string (rdOf ByteArray.empty y296 (ji6))] (0, 0) _ rfl (bz BK291.out) Try.underlying29 rfl (by kernel_rfl)) rfl ?_
      exact ⟨by first | rfl | (simp [errW_none, errW_some] <;> rfl) | (simp only [← hji3, ← hji6]; first | rfl | (simp [errW_none, errW_some] <;> rfl)) | (simp [*, errW_none, errW_some] <;> rfl), by repeat (first | (with_reducible first | exact HB.out | apply below_alloc | apply pw_below_drewN | apply below_drew1 | refine below_set ?_ GE290.out | refine below_set ?_ GE291.out) | exact HB.out)⟩
     ·rw [if_neg c8] at H
      exact absurd H (by simp)
    ·rw [if_neg c7] at H
     exact absurd H (by simp)
   ·rw [if_neg c5] at H
    exact absurd H (by simp)
  ·rw [if_neg c4] at H
   exact absurd H (by simp)
 ·replace c2 := Bool.eq_false_iff.mpr c2
  subst c2
  have H1 : (some (a0_0, a0_1)) = some (r1, r2) := by rw [if_neg (show ¬ (false = true) by decide)] at H; exact H
  clear H
  have H := H1
  clear H1
  simp only [Option.some.injEq, Prod.mk.injEq] at H
  obtain ⟨rfl, rfl⟩ := H
  go_enter Try.func49, Try.ntmps49
  go_wp2_with (first | ((with_reducible refine gate_dst (N := 1) rfl ?_); refine box_event ?hg (N := 1) ?hd (cs := #[.string a0_0, .string a0_1, .bool false, .int .u8 a0_3]) (t := 76) ?hr ?_; (case hd => rfl); (case hg => rfl); (case hr => first | (go_simp; done) | (go_simp; rfl)); intro gb290 hg w25 hbox hb; have n0_ := Aside0.mk (below_step bl hb); have n1_ := Aside0.mk (hbox); have n2_ := Aside0.mk ((by rw [hg]; exact (below_size bl) : w.heap.size ≤ gb290)); have n3_ := Aside0.mk ((by rw [hg]; exact (below_size bl) : w.heap.size ≤ gb290)); clear HB; have HB := n0_; have BK290 := n1_; have GW290 := n2_; have GE290 := n3_; clear n0_ n1_ n2_ n3_; clear hb hbox hg) | ((with_reducible refine gate_dst (N := 2) rfl ?_); refine box_event ?hg (N := 2) ?hd (cs := #[.string (⟨#[]⟩ : ByteArray), .string (⟨#[]⟩ : ByteArray)]) (t := 29) ?hr ?_; (case hd => rfl); (case hg => rfl); (case hr => first | (go_simp; done) | (go_simp; rfl)); intro gb291 hg w26 hbox hb; have n0_ := Aside0.mk (blk_below (g := gb290) (o := .cells #[.string a0_0, .string a0_1, .bool false, .int .u8 a0_3] 76 (0, 0)) (bz BK290.out) hb); have n1_ := Aside0.mk (below_step (by repeat (first | (with_reducible first | exact HB.out | apply below_alloc | apply pw_below_drewN | apply below_drew1 | refine below_set ?_ GE290.out) | exact HB.out)) hb); have n2_ := Aside0.mk (hbox); have n3_ := Aside0.mk ((by rw [hg]; exact (below_size (by repeat (first | (with_reducible first | exact HB.out | apply below_alloc | apply pw_below_drewN | apply below_drew1 | refine below_set ?_ GE290.out) | exact HB.out))) : w.heap.size ≤ gb291)); have n4_ := Aside0.mk ((by rw [hg]; exact (below_size (by repeat (first | (with_reducible first | exact HB.out | apply below_alloc | apply pw_below_drewN | apply below_drew1 | refine below_set ?_ GE290.out) | exact HB.out))) : w.heap.size ≤ gb291)); have n5_ := Aside0.mk ((by rw [hg]; exact Nat.ne_of_lt (blk_lt (g := gb290) (o := .cells #[.string a0_0, .string a0_1, .bool false, .int .u8 a0_3] 76 (0, 0)) (bz BK290.out)) : gb290 ≠ gb291)); have n6_ := Aside0.mk ((by rw [hg]; exact Nat.ne_of_gt (blk_lt (g := gb290) (o := .cells #[.string a0_0, .string a0_1, .bool false, .int .u8 a0_3] 76 (0, 0)) (bz BK290.out)) : gb291 ≠ gb290)); clear BK290; clear HB; have BK290 := n0_; have HB := n1_; have BK291 := n2_; have GW291 := n3_; have GE291 := n4_; have NB290_291 := n5_; have NB291_290 := n6_; clear n0_ n1_ n2_ n3_ n4_ n5_ n6_; clear hb hbox hg; have hnb27 := NB290_291.out; have hnc27 := NB291_290.out; have hcz28_0 : w26.cell? ⟨gb290, 0, none⟩ = some (.string a0_0) := (blk_cell BK290.out 0).trans rfl; have hcz28_1 : w26.cell? ⟨gb290, 1, none⟩ = some (.string a0_1) := (blk_cell BK290.out 1).trans rfl; have hcz28_2 : w26.cell? ⟨gb290, 2, none⟩ = some (.bool false) := (blk_cell BK290.out 2).trans rfl; have hcz28_3 : w26.cell? ⟨gb290, 3, none⟩ = some (.int .u8 a0_3) := (blk_cell BK290.out 3).trans rfl; have hfz28_0 := blk_frozen BK290.out 0; have hfz28_1 := blk_frozen BK290.out 1; have hfz28_2 := blk_frozen BK290.out 2; have hfz28_3 := blk_frozen BK290.out 3; have hcz29_0 : w26.cell? ⟨gb291, 0, none⟩ = some (.string (⟨#[]⟩ : ByteArray)) := (blk_cell BK291.out 0).trans rfl; have hcz29_1 : w26.cell? ⟨gb291, 1, none⟩ = some (.string (⟨#[]⟩ : ByteArray)) := (blk_cell BK291.out 1).trans rfl; have hfz29_0 := blk_frozen BK291.out 0; have hfz29_1 := blk_frozen BK291.out 1))
  refine bodyPost_ret (results_cell_row rfl _ _ gb291 29 #[.string a0_0, .string a0_1] (0, 0) _ rfl (by (with_reducible repeat (first | refine blk_drewN ?_ _ | refine blk_drew ?_ | refine blk_alloc ?_ _)); refine blk_put (cs := #[.string a0_0, .string (⟨#[]⟩ : ByteArray)]) ?_ 1 _ rfl; (with_reducible repeat (first | refine blk_drewN ?_ _ | refine blk_drew ?_ | refine blk_alloc ?_ _)); refine blk_put (cs := #[.string (⟨#[]⟩ : ByteArray), .string (⟨#[]⟩ : ByteArray)]) ?_ 0 _ rfl; (with_reducible repeat (first | refine blk_drewN ?_ _ | refine blk_drew ?_ | refine blk_alloc ?_ _)); exact BK291.out) Try.underlying29 rfl (by kernel_rfl)) rfl ?_
  exact ⟨by first | rfl | (simp [errW_none, errW_some] <;> rfl) | (simp [*, errW_none, errW_some] <;> rfl), by repeat (first | (with_reducible first | exact HB.out | apply below_alloc | apply pw_below_drewN | apply below_drew1 | refine below_set ?_ GE290.out | refine below_set ?_ GE291.out) | exact HB.out)⟩

/-! ### archivistlaw06_tags: function 16 -/
def archivistlaw06_tags.l0 : Nat → List (S76) → Int → List (S29) → Int → Option ((List (S29)))
 | 0, _, _, _, _ => none
 | k + 1, x0, x1, x5, x6 => if x6 < (x0.length : Int) then (if x6 < x1 then (if 0 ≤ x6 then ((archivistlaw06_Tag_tag.f ((rd_T76 x0 x6).f0.f0) ((rd_T76 x0 x6).f0.f1) ((rd_T76 x0 x6).f1) ((rd_T76 x0 x6).f2)).bind fun bt301 => (if x5.length < 4398046511104 then (archivistlaw06_tags.l0 k x0 x1 (x5 ++ [(⟨bt301.1, bt301.2⟩ : S29)]) (wrap64 (x6 + 1))) else (none))) else (none)) else (some x5)) else (some x5)
def archivistlaw06_tags.f (k : Nat) (l0 : List (S76)) (a1 : Int) : Option ((List (S29))) := archivistlaw06_tags.l0 k l0 a1 ([] : List (S29)) 0
theorem archivistlaw06_tags.mono_l : ∀ k, (∀ y0 y1 y2 y3, LeO (archivistlaw06_tags.l0 k y0 y1 y2 y3) (archivistlaw06_tags.l0 (k + 1) y0 y1 y2 y3))
 | 0 => fun _ _ _ _ r h => by simp [archivistlaw06_tags.l0] at h
 | k + 1 => by
  have ih0 := archivistlaw06_tags.mono_l k
  ·intro y0 y1 y2 y3
   unfold archivistlaw06_tags.l0
   repeat' first
   | (with_reducible exact ih0 _ _ _ _)
   | (with_reducible exact LeO.refl _)
   | (with_reducible exact LeO.none _)
   | (with_reducible refine LeO.ite ?_ ?_)
   | (with_reducible refine LeO.bind ?_ (fun _ => ?_))
   | exact ih0 _ _ _ _
   | exact LeO.none _
   | refine LeO.ite ?_ ?_
   | refine LeO.bind ?_ (fun _ => ?_)
theorem archivistlaw06_tags.mono : ∀ a0 a1 k, LeO (archivistlaw06_tags.f k a0 a1) (archivistlaw06_tags.f (k + 1) a0 a1) := by
 intro a0 a1 k
 have ih0 := archivistlaw06_tags.mono_l k
 unfold archivistlaw06_tags.f
 repeat' first
   | (with_reducible exact ih0 _ _ _ _)
   | (with_reducible exact LeO.refl _)
   | (with_reducible exact LeO.none _)
   | (with_reducible refine LeO.ite ?_ ?_)
   | (with_reducible refine LeO.bind ?_ (fun _ => ?_))
   | exact ih0 _ _ _ _
   | exact LeO.none _
   | refine LeO.ite ?_ ?_
   | refine LeO.bind ?_ (fun _ => ?_)
set_option maxHeartbeats 8000000 in
set_option maxRecDepth 100000 in
theorem archivistlaw06_tags.calls (k : Nat) (A0 : Option Addr) (c0 : Nat) (l0 : List (S76)) (a1 : Int) (r : List (S29)) (w : World) (hr0 : Kd.C k76 w A0 l0.length l0) (hc0 : l0.length ≤ c0) (h : archivistlaw06_tags.f k l0 a1 = some r) :
  Calls Try.prog 16 #[.slice A0 l0.length c0, .int .i64 a1] w fun e w' => ∃ v0_ : Value, e = .returned (v0_) ∧ Kd.R k29 29 w' w.heap.size (fun _ => True) v0_ r ∧ Below w.heap.size w w' := by
 have hu76 := Try.underlying76
 have HR0 := Aside0.mk hr0
 have HC0 := Aside0.mk hc0
 clear hr0 hc0
 have HB := Aside0.mk (Below.refl w.heap.size w)
 have H : (archivistlaw06_tags.l0 k l0 a1 ([] : List (S29)) 0) = some r := h
 clear h
 have H' := Aside0.mk H
 clear H
 go_enter Try.func16, Try.ntmps16
 go_wp2
 go_loopg [5, 6] k (fun kq v5 v6 w' => ∃ (x5_1 : List (S29)) (x6_1 : Int), v6 = .int .i64 x6_1 ∧ Aside0 (archivistlaw06_tags.l0 kq l0 a1 x5_1 x6_1 = some r) ∧ Aside0 (kq ≤ k) ∧ Aside0 (Kd.R k29 29 w' w.heap.size (fun _ => True) v5 x5_1) ∧ Aside0 (Below w.heap.size w w'))
 case atStart => exact ⟨(([] : List (S29))), (0), rs, H', ⟨Nat.le_refl _⟩, ⟨by first | exact Kd.R_nil _ _ _ _ _ | exact Kd.N_nil _ _ _ _ _ | exact Kd.V_nil _ _ _ _ _ | exact Kd.Q_nil _ _ _ _ _ | exact Kd.S_nil _ _ _ _ _⟩, ⟨bl⟩⟩
 case round =>
  clear H'
  try clear c1
  try clear p2
  obtain ⟨x5_1, x6_1, rfl, HA, HK1, HO_5, HB⟩ := hrel
  cases gk with
  | zero => exact absurd HA.out (by simp [archivistlaw06_tags.l0])
  | succ k1 =>
   have H := HA.out
   clear HA
   simp only [archivistlaw06_tags.l0] at H
   by_cases c3 : x6_1 < (l0.length : Int)
   ·rw [if_pos c3] at H
    have c3b0 := decide_eq_true c3
    clear c3
    by_cases c4 : x6_1 < a1
    ·rw [if_pos c4] at H
     have c4b0 := decide_eq_true c4
     clear c4
     by_cases c5 : 0 ≤ x6_1
     ·rw [if_pos c5] at H
      have c5b0 := decide_eq_true c5
      clear c5
      replace H := Option.bind_eq_some_iff.mp H
      obtain ⟨⟨t301, t302⟩, A60, H⟩ := H
      replace H : (if x5_1.length < 4398046511104 then (archivistlaw06_tags.l0 k1 l0 a1 (x5_1 ++ [(⟨t301, t302⟩ : S29)]) (wrap64 (x6_1 + 1))) else (none)) = some r := H
      have A6 := Aside0.mk A60
      clear A60
      by_cases c7 : x5_1.length < 4398046511104
      ·rw [if_pos c7] at H
       have LMc7 := Aside0.mk c7
       clear c7
       obtain ⟨y303, hy303⟩ : ∃ y_ : List (S29), y_ = (x5_1 ++ [(⟨t301, t302⟩ : S29)]) := ⟨_, rfl⟩
       replace H : (archivistlaw06_tags.l0 k1 l0 a1 y303 (wrap64 (x6_1 + 1))) = some r := by first | (rw [hy303]; with_reducible exact H) | (have H2_ := (Option.bind_some _ _).symm.trans H; rw [hy303]; with_reducible exact H2_) | (have H2_ := (Option.bind_some _ _).symm.trans H; with_reducible exact H2_) | with_reducible exact H | (rw [hy303]; exact H) | exact H
       have Ny303 := Aside0.mk hy303
       clear hy303
       have H' := Aside0.mk H
       clear H
       have p300 : 0 ≤ (x6_1 : Int) := od
       have q300 : x6_1 < (l0.length : Int) := od
       obtain ⟨ad300, e300, hx300_0, hx300_1, hx300_2, hx300_3⟩ := at_T76 HR0.out x6_1 p300 q300
       cases e300
       replace hx300_0 := cu HB.out hx300_0
       replace hx300_1 := cu HB.out hx300_1
       replace hx300_2 := cu HB.out hx300_2
       replace hx300_3 := cu HB.out hx300_3
       replace p300 := eq_true p300
       replace q300 := eq_true q300
       go_wp2_with (first | ((with_reducible refine gate_callee (f := 49) rfl ?_); refine goesL_ (some 23) rfl rfl Try.func49 (by kernel_rfl) rfl #[.agg #[.string ((rd_T76 l0 x6_1).f0.f0), .string ((rd_T76 l0 x6_1).f0.f1), .bool ((rd_T76 l0 x6_1).f1), .int .u8 ((rd_T76 l0 x6_1).f2)]] rfl ml ?_; (with_reducible refine (archivistlaw06_Tag_tag.calls _ _ _ _ _ _ _ A6.out).mono ?_); rintro e w8 ⟨rfl, hb⟩; refine ⟨_, rfl, ?_⟩; have n0_ := Aside0.mk (Kd.R_below (rz HO_5.out) hb); have n1_ := Aside0.mk (below_step bl hb); clear HO_5; clear HB; have HO_5 := n0_; have HB := n1_; clear n0_ n1_; (try clear hb); (try clear hb2); (try clear hk); (try clear hi)) | ((with_reducible refine gate_builtin (b := .append) (xs := #[.tmp 18, .tmp 24]) rfl ?_); at_builtin; refine Kd.R_append k29 (w0 := w) w.heap.size rfl (.tmp 18) (.tmp 24) 24 29 (.agg #[(.string ⟨#[]⟩), (.string ⟨#[]⟩)]) 32 rfl Try.underlying24 info29 rfl (by decide) (by omega) u5 x5_1 (⟨t301, t302⟩ : S29) [.string t301, .string t302] (fun _ => True) (fun _ => False) rfl rfl ?aP (fun _ hk => hk.elim) ?aF ?aO ?aB ?aS ?aL ?_; (case aP => exact k29_mkM _ _ _ (⟨t301, t302⟩ : S29)); (case aB => exact bl); (case aF => exact (fun _ _ => trivial)); (case aO => exact (rz HO_5.out)); (case aS => exact (below_size bl)); (case aL => have := LMc7.out; omega); intro v304 w9 ho hb hg hat; rw [← Ny303.out] at ho; have n0_ := Aside0.mk (hb); have n1_ := Aside0.mk (ho); clear HB; clear HO_5; have HB := n0_; have HO305 := n1_; clear n0_ n1_; clear ho hb hg hat))
       go_roundg k1
       case measure => have := HK1.out; omega
       case rel => exact ⟨(y303), (wrap64 (x6_1 + 1)), rs, H', ⟨by have := HK1.out; omega⟩, ⟨rz HO305.out⟩, ⟨bl⟩⟩
      ·rw [if_neg c7] at H
       exact absurd H (by simp)
     ·rw [if_neg c5] at H
      exact absurd H (by simp)
    ·rw [if_neg c4] at H
     have c4b0 : decide (x6_1 < a1) = false := decide_eq_false c4
     clear c4
     obtain rfl := Option.some.inj H
     go_wp2
     go_ret
     exact ⟨_, by first | rfl | (simp [errW_none, errW_some] <;> rfl) | (simp [*, errW_none, errW_some] <;> rfl), by (with_reducible repeat (first | apply Kd.R_alloc | apply Kd.R_drewN | apply Kd.R_drew)); exact HO_5.out, bl⟩
   ·rw [if_neg c3] at H
    have c3b0 : decide (x6_1 < (l0.length : Int)) = false := decide_eq_false c3
    clear c3
    obtain rfl := Option.some.inj H
    go_wp2
    go_ret
    exact ⟨_, by first | rfl | (simp [errW_none, errW_some] <;> rfl) | (simp [*, errW_none, errW_some] <;> rfl), by (with_reducible repeat (first | apply Kd.R_alloc | apply Kd.R_drewN | apply Kd.R_drew)); exact HO_5.out, bl⟩

end Go.Proofs.Ytbkhgldinmabiaa.X
