-- Laid by xprint.py, a program of this session's, out of the translation.
import Derived.Test.YtielpefbgdilaaaX0
import Derived.Test.YtielpefbgdilaaaX9
namespace Go.Proofs.Ytielpefbgdilaaa.X
open Go.RowKit Go.Proofs.YtielpefbgdilaaaW.PrintWords Go.Proofs.YtielpefbgdilaaaW.PrintLast Go.Proofs.YtielpefbgdilaaaW.PrintMore
attribute [local go_sem] max2_int min2_int max_two min_two max_three min_three max_four min_four x_isSome x_str_gtr x_str_leq x_str_geq   -- for this text's walks alone
set_option linter.unusedVariables false
set_option linter.unusedSimpArgs false

/-! ### strings_Join: function 44 -/
def strings_Join.pure (l0 : List ByteArray) (a1 : ByteArray) : ByteArray := ⟨(Lib.join (l0.map (·.data.toList)) a1.data.toList).toArray⟩
/-- told where the machine has the room for it -/
def strings_Join.f (l0 : List ByteArray) (a1 : ByteArray) : Option (ByteArray) := if l0.length ≤ 140737488355328 ∧ (strings_Join.pure l0 a1).size ≤ 140737488355328 then some (strings_Join.pure l0 a1) else none
theorem strings_Join.calls (A0 : Option Addr) (c0 : Nat) (l0 : List ByteArray) (a1 : ByteArray) (r : ByteArray) (w : World) (hr0 : Kd.C Kd.string w A0 l0.length l0) (hc0 : l0.length ≤ c0) (h : strings_Join.f l0 a1 = some r) :
  Calls Try.prog 44 #[.slice A0 l0.length c0, .string a1] w fun e w' => e = .returned (.string r) ∧ Below w.heap.size w w' := by
 unfold strings_Join.f at h
 split at h
 case isFalse => simp at h
 rename_i hz
 obtain ⟨hz1, hz2⟩ := hz
 obtain rfl := Option.some.inj h
 rcases Nat.eq_zero_or_pos l0.length with h0 | h0
 ·obtain rfl : l0 = [] := List.eq_nil_of_length_eq_zero h0
  refine (Try.strings_Join_none A0 c0 a1 w).mono ?_
  rintro e w' ⟨rfl, rfl⟩
  exact ⟨rfl, Below.refl _ _⟩
 ·obtain ⟨ad, rfl, hcell⟩ := hr0.2.2 h0
  have hcs : ∀ (j : Nat) x, l0[j]? = some x → w.cell? (ad.add j) = some (.string x) := by
   intro j x hx
   obtain ⟨c, _, hK, hc⟩ := hcell j x hx
   have hK' : c = [.string x] := hK
   subst hK'
   have := hc 0 _ rfl
   simpa [Kd.string, Kd.scalar] using this
  have hsp : ad.spot = none := by
   obtain ⟨x, hx⟩ : ∃ x, l0[0]? = some x := ⟨l0[0], List.getElem?_eq_getElem h0⟩
   have h1 := hcs 0 x hx
   have e0 : ad.add 0 = ad := by simp [Addr.add]
   rw [e0] at h1
   cases hs : ad.spot with
   | none => rfl
   | some y =>
    simp [World.cell?, hs] at h1
    split at h1 <;> simp at h1
  obtain ⟨bk, o, sp⟩ := ad
  simp only at hsp
  subst hsp
  have hcs' : ∀ (j : Nat) x, l0[j]? = some x → w.cell? ⟨bk, o + j, none⟩ = some (.string x) := by
   intro j x hx
   have := hcs j x hx
   rcases Nat.eq_zero_or_pos j with rfl | hj
   ·simpa [Addr.add] using this
   ·simpa [Addr.add, Nat.ne_of_gt hj] using this
  have hbk : bk < w.heap.size := by
   have := World.block_lt_of_cell? w _ (hcs' 0 _ (List.getElem?_eq_getElem h0))
   simpa using this
  refine (Try.strings_Join bk o c0 l0 a1 w hcs' hbk hz1 hc0 ?_).mono ?_
  ·have e := hz2
   unfold strings_Join.pure at e
   simpa [ByteArray.size] using e
  ·rintro e w' ⟨rfl, hb⟩
   exact ⟨rfl, hb⟩

/-! ### quote_Join: function 32 -/
def quote_Join.f (a0 : ByteArray) (l1 : List ByteArray) : Option (ByteArray) := (strings_Join.f l1 a0).bind fun t199 => (some t199)
set_option maxHeartbeats 8000000 in
set_option maxRecDepth 100000 in
theorem quote_Join.calls (a0 : ByteArray) (A1 : Option Addr) (c1 : Nat) (l1 : List ByteArray) (r : ByteArray) (w : World) (hr1 : Kd.C Kd.string w A1 l1.length l1) (hc1 : l1.length ≤ c1) (h : quote_Join.f a0 l1 = some r) :
  Calls Try.prog 32 #[.string a0, .slice A1 l1.length c1] w fun e w' => e = .returned (.string r) ∧ Below w.heap.size w w' := by
 have HR1 := Aside0.mk hr1
 have HC1 := Aside0.mk hc1
 clear hr1 hc1
 have HB := Aside0.mk (Below.refl w.heap.size w)
 have H : ((strings_Join.f l1 a0).bind fun t199 => (some t199)) = some r := h
 clear h
 replace H := Option.bind_eq_some_iff.mp H
 obtain ⟨t199, A30, H⟩ := H
 replace H : (some t199) = some r := H
 have A3 := Aside0.mk A30
 clear A30
 obtain rfl := Option.some.inj H
 go_enter Try.func32, Try.ntmps32
 go_wp2_with (first | ((with_reducible refine gate_callee (f := 44) rfl ?_); refine goesL_ (some 7) rfl rfl Try.func44 (by kernel_rfl) rfl #[.slice A1 l1.length c1, .string a0] rfl ml ?_; (with_reducible refine (strings_Join.calls _ _ _ _ _ _ ?side1 ?side2 A3.out).mono ?_); (case side1 => repeat (first | exact HR1.out | (with_reducible refine Kd.C_alloc ?_ _) | (with_reducible refine Kd.C_drewN ?_ _) | (with_reducible refine Kd.C_drew ?_))); (case side2 => exact HC1.out); rintro e w4 ⟨rfl, hb⟩; refine ⟨_, rfl, ?_⟩; have n0_ := Aside0.mk (below_step bl hb); clear HB; have HB := n0_; clear n0_; (try clear hb); (try clear hb2); (try clear hk); (try clear hi)))
 go_ret
 exact ⟨by first | rfl | (simp [errW_none, errW_some] <;> rfl) | (simp [*, errW_none, errW_some] <;> rfl), bl⟩

/-! ### logfmt_Put: function 16 -/
def logfmt_Put.l0 : Nat → List ByteArray → List (S39) → Int → Int → Option (ByteArray)
 | 0, _, _, _, _ => none
 | k + 1, x3, x6, x7, x8 => if x8 < x7 then (if 0 ≤ x8 then (if x8 < (x6.length : Int) then (if ((rd_T39 x6 x8).f0).size + 1 ≤ 9223372036854775807 then ((quote_Put.f k ((rd_T39 x6 x8).f1)).bind fun t202 => (if (((rd_T39 x6 x8).f0) ++ (⟨#[61]⟩ : ByteArray)).size + t202.size ≤ 9223372036854775807 then (if x3.length < 8796093022208 then (logfmt_Put.l0 k (x3 ++ [(((rd_T39 x6 x8).f0) ++ (⟨#[61]⟩ : ByteArray)) ++ t202]) x6 x7 (wrap64 (x8 + 1))) else (none)) else (none))) else (none)) else (none)) else (none)) else ((quote_Join.f (⟨#[32]⟩ : ByteArray) x3).bind fun t206 => (some t206))
def logfmt_Put.f (k : Nat) (l0 : List (S39)) : Option (ByteArray) := logfmt_Put.l0 k ([] : List ByteArray) l0 (l0.length : Int) 0
theorem logfmt_Put.mono_l : ∀ k, (∀ y0 y1 y2 y3, LeO (logfmt_Put.l0 k y0 y1 y2 y3) (logfmt_Put.l0 (k + 1) y0 y1 y2 y3))
 | 0 => fun _ _ _ _ r h => by simp [logfmt_Put.l0] at h
 | k + 1 => by
  have ih0 := logfmt_Put.mono_l k
  ·intro y0 y1 y2 y3
   unfold logfmt_Put.l0
   repeat' first
   | (with_reducible exact ih0 _ _ _ _)
   | (with_reducible exact quote_Put.mono _ _)
   | (with_reducible exact LeO.refl _)
   | (with_reducible exact LeO.none _)
   | (with_reducible refine LeO.ite ?_ ?_)
   | (with_reducible refine LeO.bind ?_ (fun _ => ?_))
   | exact ih0 _ _ _ _
   | exact quote_Put.mono _ _
   | exact LeO.none _
   | refine LeO.ite ?_ ?_
   | refine LeO.bind ?_ (fun _ => ?_)
theorem logfmt_Put.mono : ∀ a0 k, LeO (logfmt_Put.f k a0) (logfmt_Put.f (k + 1) a0) := by
 intro a0 k
 have ih0 := logfmt_Put.mono_l k
 unfold logfmt_Put.f
 repeat' first
   | (with_reducible exact ih0 _ _ _ _)
   | (with_reducible exact quote_Put.mono _ _)
   | (with_reducible exact LeO.refl _)
   | (with_reducible exact LeO.none _)
   | (with_reducible refine LeO.ite ?_ ?_)
   | (with_reducible refine LeO.bind ?_ (fun _ => ?_))
   | exact ih0 _ _ _ _
   | exact quote_Put.mono _ _
   | exact LeO.none _
   | refine LeO.ite ?_ ?_
   | refine LeO.bind ?_ (fun _ => ?_)
def logfmt_Put.T5 : Bool × List (List Nat × List Nat) := (true, [([], []), ([], []), ([1], [1]), ([2], [2]), ([], []), ([4], [4]), ([5], [5]), ([3, 6], [3, 6]), ([7], [7]), ([0, 8, 6], [0, 8]), ([9, 9, 0, 1, 2, 3, 4, 5, 6, 7, 8, 9], [0, 9])])
def logfmt_Put.B5 : List Nat := [0, 0, 2, 6, 0, 16, 48, 126, 254, 511, 1023]
theorem logfmt_Put.tab5 : rtab .any (opsOf Try.f16 5) = logfmt_Put.T5 := by kernel_rfl
theorem logfmt_Put.bits5 : waitsOk logfmt_Put.T5.2 logfmt_Put.B5 = true := by kernel_rfl
set_option maxHeartbeats 8000000 in
set_option maxRecDepth 100000 in
theorem logfmt_Put.calls (k : Nat) (A0 : Option Addr) (c0 : Nat) (l0 : List (S39)) (r : ByteArray) (w : World) (hr0 : Kd.C k39 w A0 l0.length l0) (hc0 : l0.length ≤ c0) (h : logfmt_Put.f k l0 = some r) :
  Calls Try.prog 16 #[.slice A0 l0.length c0] w fun e w' => e = .returned (.string r) ∧ Below w.heap.size w w' := by
 have hu39 := Try.underlying39
 have HR0 := Aside0.mk hr0
 have HC0 := Aside0.mk hc0
 clear hr0 hc0
 have HB := Aside0.mk (Below.refl w.heap.size w)
 have H : (logfmt_Put.l0 k ([] : List ByteArray) l0 (l0.length : Int) 0) = some r := h
 clear h
 have H' := Aside0.mk H
 clear H
 go_enter Try.func16, Try.ntmps16
 go_wp2
 go_loopg [3, 8] k (fun kq v3 v8 w' => ∃ (x3_1 : List ByteArray) (x8_1 : Int), v8 = .int .i64 x8_1 ∧ Aside0 (logfmt_Put.l0 kq x3_1 l0 (l0.length : Int) x8_1 = some r) ∧ Aside0 (kq ≤ k) ∧ Aside0 (Kd.R Kd.string 9 w' w.heap.size (fun _ => True) v3 x3_1) ∧ Aside0 (Below w.heap.size w w'))
 case atStart => exact ⟨(([] : List ByteArray)), (0), rs, H', ⟨Nat.le_refl _⟩, ⟨by first | exact Kd.R_nil _ _ _ _ _ | exact Kd.N_nil _ _ _ _ _ | exact Kd.V_nil _ _ _ _ _ | exact Kd.Q_nil _ _ _ _ _ | exact Kd.S_nil _ _ _ _ _⟩, ⟨bl⟩⟩
 case round =>
  clear H'
  try clear c1
  obtain ⟨x3_1, x8_1, rfl, HA, HK1, HO_3, HB⟩ := hrel
  cases gk with
  | zero => exact absurd HA.out (by simp [logfmt_Put.l0])
  | succ k1 =>
   have H := HA.out
   clear HA
   simp only [logfmt_Put.l0] at H
   by_cases c2 : x8_1 < (l0.length : Int)
   ·rw [if_pos c2] at H
    have c2b0 := decide_eq_true c2
    clear c2
    by_cases c3 : 0 ≤ x8_1
    ·rw [if_pos c3] at H
     have c3b0 := decide_eq_true c3
     clear c3
     by_cases c4 : x8_1 < (l0.length : Int)
     ·rw [if_pos c4] at H
      have c4b0 := decide_eq_true c4
      clear c4
      by_cases c5 : ((rd_T39 l0 x8_1).f0).size + 1 ≤ 9223372036854775807
      ·rw [if_pos c5] at H
       have c5b0 := eq_true c5
       have c5b1 : decide (((rd_T39 l0 x8_1).f0).size + 1 ≤ 9223372036854775807) = true := decide_eq_true c5
       try have c5b2 : (9223372036854775807 < ((rd_T39 l0 x8_1).f0).size + 1) = False := eq_false (Nat.not_lt.2 c5)
       replace H := Option.bind_eq_some_iff.mp H
       obtain ⟨t202, A60, H⟩ := H
       replace H : (if (((rd_T39 l0 x8_1).f0) ++ (⟨#[61]⟩ : ByteArray)).size + t202.size ≤ 9223372036854775807 then (if x3_1.length < 8796093022208 then (logfmt_Put.l0 k1 (x3_1 ++ [(((rd_T39 l0 x8_1).f0) ++ (⟨#[61]⟩ : ByteArray)) ++ t202]) l0 (l0.length : Int) (wrap64 (x8_1 + 1))) else (none)) else (none)) = some r := H
       have A6 := Aside0.mk A60
       clear A60
       by_cases c7 : (((rd_T39 l0 x8_1).f0) ++ (⟨#[61]⟩ : ByteArray)).size + t202.size ≤ 9223372036854775807
       ·rw [if_pos c7] at H
        have c7b0 := eq_true c7
        have c7b1 : decide ((((rd_T39 l0 x8_1).f0) ++ (⟨#[61]⟩ : ByteArray)).size + t202.size ≤ 9223372036854775807) = true := decide_eq_true c7
        try have c7b2 : (9223372036854775807 < (((rd_T39 l0 x8_1).f0) ++ (⟨#[61]⟩ : ByteArray)).size + t202.size) = False := eq_false (Nat.not_lt.2 c7)
        try (have c7b3 : (9223372036854775807 < (((rd_T39 l0 x8_1).f0) ++ (⟨#[61]⟩ : ByteArray)).size + t202.size) = False := eq_false (Nat.not_lt.2 c7); simp only [ByteArray.size_append, show (⟨#[61]⟩ : ByteArray).size = 1 from rfl, Nat.add_zero, Nat.zero_add] at c7b3)
        by_cases c8 : x3_1.length < 8796093022208
        ·rw [if_pos c8] at H
         have LMc8 := Aside0.mk c8
         clear c8
         obtain ⟨y203, hy203⟩ : ∃ y_ : List ByteArray, y_ = (x3_1 ++ [(((rd_T39 l0 x8_1).f0) ++ (⟨#[61]⟩ : ByteArray)) ++ t202]) := ⟨_, rfl⟩
         replace H : (logfmt_Put.l0 k1 y203 l0 (l0.length : Int) (wrap64 (x8_1 + 1))) = some r := by first | (rw [hy203]; with_reducible exact H) | (have H2_ := (Option.bind_some _ _).symm.trans H; rw [hy203]; with_reducible exact H2_) | (have H2_ := (Option.bind_some _ _).symm.trans H; with_reducible exact H2_) | with_reducible exact H | (rw [hy203]; exact H) | exact H
         have Ny203 := Aside0.mk hy203
         clear hy203
         have H' := Aside0.mk H
         clear H
         have p200 : 0 ≤ (x8_1 : Int) := od
         have q200 : x8_1 < (l0.length : Int) := od
         obtain ⟨ad200, e200, hx200_0, hx200_1⟩ := at_T39 HR0.out x8_1 p200 q200
         cases e200
         replace hx200_0 := cu HB.out hx200_0
         replace hx200_1 := cu HB.out hx200_1
         replace p200 := eq_true p200
         replace q200 := eq_true q200
         try go_wp2_with (first | ((with_reducible refine gate_dst (N := 5) rfl ?_); refine box_event ?hg (N := 5) ?hd (cs := #[.string (⟨#[]⟩ : ByteArray), .string (⟨#[]⟩ : ByteArray)]) (t := 39) ?hr ?_; (case hd => rfl); (case hg => rfl); (case hr => first | (go_simp; done) | (go_simp; rfl)); intro gb201 hg w9 hbox hb; have n0_ := Aside0.mk (Kd.R_below (rz HO_3.out) hb); have n1_ := Aside0.mk (below_step bl hb); have n2_ := Aside0.mk (hbox); have n3_ := Aside0.mk ((by rw [hg]; exact (below_size bl) : w.heap.size ≤ gb201)); have n4_ := Aside0.mk ((by rw [hg]; exact (below_size bl) : w.heap.size ≤ gb201)); clear HO_3; clear HB; have HO_3 := n0_; have HB := n1_; have BK201 := n2_; have GW201 := n3_; have GE201 := n4_; clear n0_ n1_ n2_ n3_ n4_; clear hb hbox hg; have hcz10_0 : w9.cell? ⟨gb201, 0, none⟩ = some (.string (⟨#[]⟩ : ByteArray)) := (blk_cell BK201.out 0).trans rfl; have hcz10_1 : w9.cell? ⟨gb201, 1, none⟩ = some (.string (⟨#[]⟩ : ByteArray)) := (blk_cell BK201.out 1).trans rfl; have hfz10_0 := blk_frozen BK201.out 0; have hfz10_1 := blk_frozen BK201.out 1))
         have n0_ : Aside0 (Kd.R Kd.string 9 ((w9.setCell ⟨gb201, 0, none⟩ (.string ((rd_T39 l0 x8_1).f0))).setCell ⟨gb201, 1, none⟩ (.string ((rd_T39 l0 x8_1).f1))) w.heap.size (fun _ => True) u3 x3_1) := ⟨by (with_reducible repeat (first | apply Kd.R_alloc | apply Kd.R_drewN | apply Kd.R_drew)); exact Kd.R_mono (Kd.R_far (p := ⟨gb201, 1, none⟩) (Kd.R_far (p := ⟨gb201, 0, none⟩) (Kd.R_types HO_3.out BK201.out (by decide)) (fun _ hk => hk.2) (.string ((rd_T39 l0 x8_1).f0))) (fun _ hk => hk.2) (.string ((rd_T39 l0 x8_1).f1))) (fun _ hk => trivial)⟩
         have n1_ : Aside0 (((w9.setCell ⟨gb201, 0, none⟩ (.string ((rd_T39 l0 x8_1).f0))).setCell ⟨gb201, 1, none⟩ (.string ((rd_T39 l0 x8_1).f1))).heap[gb201]? = some (.cells #[.string ((rd_T39 l0 x8_1).f0), .string ((rd_T39 l0 x8_1).f1)] 39 (0, 0))) := ⟨by (with_reducible repeat (first | refine blk_drewN ?_ _ | refine blk_drew ?_ | refine blk_alloc ?_ _)); refine blk_put (cs := #[.string ((rd_T39 l0 x8_1).f0), .string (⟨#[]⟩ : ByteArray)]) ?_ 1 _ rfl; (with_reducible repeat (first | refine blk_drewN ?_ _ | refine blk_drew ?_ | refine blk_alloc ?_ _)); refine blk_put (cs := #[.string (⟨#[]⟩ : ByteArray), .string (⟨#[]⟩ : ByteArray)]) ?_ 0 _ rfl; (with_reducible repeat (first | refine blk_drewN ?_ _ | refine blk_drew ?_ | refine blk_alloc ?_ _)); exact BK201.out⟩
         have n2_ : Aside0 (Below w.heap.size w ((w9.setCell ⟨gb201, 0, none⟩ (.string ((rd_T39 l0 x8_1).f0))).setCell ⟨gb201, 1, none⟩ (.string ((rd_T39 l0 x8_1).f1)))) := ⟨by repeat (first | (with_reducible first | exact HB.out | apply below_alloc | apply pw_below_drewN | apply below_drew1 | refine below_set ?_ GE201.out) | exact HB.out)⟩
         (try clear HO_3)
         (try clear BK201)
         (try clear HB)
         generalize ((w9.setCell ⟨gb201, 0, none⟩ (.string ((rd_T39 l0 x8_1).f0))).setCell ⟨gb201, 1, none⟩ (.string ((rd_T39 l0 x8_1).f1))) = w11 at n0_ n1_ n2_ ⊢
         have HO_3 := n0_
         have BK201 := n1_
         have HB := n2_
         clear n0_ n1_ n2_
         have n0_ := Aside0.mk (Kd.R_drew HO_3.out)
         have n1_ := Aside0.mk (blk_drew BK201.out)
         have n2_ := Aside0.mk (below_drew1 HB.out)
         clear HO_3
         clear BK201
         clear HB
         have HO_3 := n0_
         have BK201 := n1_
         have HB := n2_
         clear n0_ n1_ n2_
         refine start_ (n := 11) (S := fun w' => w'.cell? ⟨gb201, 0, none⟩ = some (.string ((rd_T39 l0 x8_1).f0)) ∧ w'.cell? ⟨gb201, 1, none⟩ = some (.string ((rd_T39 l0 x8_1).f1))) (ds := []) #[N_,N_,N_,N_,N_,N_,N_,N_,N_,N_,N_] (by kernel_rfl) rfl rfl ⟨(blk_cell BK201.out 0).trans rfl, (blk_cell BK201.out 1).trans rfl⟩ (fun hHeld => ?_); refine with_tabW logfmt_Put.tab5 logfmt_Put.bits5 (fun HT_ HW_ => ?_)
         generalize w11.drew = w12 at HO_3 BK201 HB hHeld ⊢
         refine pY 0 12 #[J_,N_,N_,N_,N_,N_,N_,N_,N_,N_,N_] HT_.out ?_
         refine pY 1 13 #[J_,J_,N_,N_,N_,N_,N_,N_,N_,N_,N_] HT_.out ?_
         refine pY 4 16 #[J_,J_,N_,N_,J_,N_,N_,N_,N_,N_,N_] HT_.out ?_
         refine take_ (i := 2) (N := some 14) (v := ?_) (a' := ?_) #[J_,J_,J_,N_,J_,N_,N_,N_,N_,N_,N_] rfl rfl (take_ofW HT_.out HW_.out (by kernel_rfl)) (fun _ _ _ h => h) (Or.inl ⟨by rfl, ?_⟩) hHeld ?_ ?_
         rotate_left
         ·rintro w' ⟨s0, s1⟩
          go_simp
          with_reducible rfl
         rotate_left
         ·simp only [Act.put, List.setIfInBounds_toArray, List.set_cons_zero, List.set_cons_succ, i64_w, i32_w]
          rfl
         refine pY 3 15 #[J_,J_,J_,J_,J_,N_,N_,N_,N_,N_,N_] HT_.out ?_
         refine take_ (i := 5) (N := some 17) (v := ?_) (a' := ?_) #[J_,J_,J_,J_,J_,J_,N_,N_,N_,N_,N_] rfl rfl (take_ofW HT_.out HW_.out (by kernel_rfl)) (fun _ _ _ h => h) (Or.inl ⟨by rfl, ?_⟩) hHeld ?_ ?_
         rotate_left
         ·rintro w' ⟨s0, s1⟩
          go_simp
          with_reducible rfl
         rotate_left
         ·simp only [Act.put, List.setIfInBounds_toArray, List.set_cons_zero, List.set_cons_succ, i64_w, i32_w]
          rfl
         refine one_ (i := 6) (N := some 18) #[J_,J_,J_,J_,J_,J_,J_,N_,N_,N_,N_] rfl rfl (one_of HT_.out (by kernel_rfl)) (by decide) (fun K hK => ?_)
         refine goes_ Try.func31 (by kernel_rfl) rfl #[.string ((rd_T39 l0 x8_1).f1)] (by rfl) rfl rfl ml ?_
         with_reducible refine (quote_Put.calls _ _ _ _ A6.out).mono ?_
         rintro e w13 ⟨rfl, hb⟩
         refine ⟨_, rfl, ?_⟩
         have n0_ := Aside0.mk (Kd.R_below (rz HO_3.out) hb)
         have n1_ := Aside0.mk (blk_below (g := gb201) (o := .cells #[.string ((rd_T39 l0 x8_1).f0), .string ((rd_T39 l0 x8_1).f1)] 39 (0, 0)) (bz BK201.out) hb)
         have n2_ := Aside0.mk (below_step (by repeat (first | (with_reducible first | exact HB.out | apply below_alloc | apply pw_below_drewN | apply below_drew1 | refine below_set ?_ GE201.out) | exact HB.out)) hb)
         clear HO_3
         clear BK201
         clear HB
         have HO_3 := n0_
         have BK201 := n1_
         have HB := n2_
         clear n0_ n1_ n2_
         (try clear hb)
         (try clear hb2)
         (try clear hk)
         (try clear hi)
         refine hK.out _ _ ⟨(blk_cell BK201.out 0).trans rfl, (blk_cell BK201.out 1).trans rfl⟩ (fun hHeld => ?_)
         clear hK K
         refine norm_ (a' := ?_) ?_ ?_
         rotate_left
         ·show Act.put _ (some 18) _ = _
          simp only [Act.put, List.setIfInBounds_toArray, List.set_cons_zero, List.set_cons_succ, i64_w, i32_w]
          rfl
         refine pY 7 19 #[J_,J_,J_,J_,J_,J_,J_,J_,N_,N_,N_] HT_.out ?_
         refine one_ (i := 8) (N := some 20) #[J_,J_,J_,J_,J_,J_,J_,J_,J_,N_,N_] rfl rfl (one_of HT_.out (by kernel_rfl)) (by decide) (fun K hK => ?_)
         refine value_ (w1 := ?_) (v := ?_) (by rfl) rfl ?_ ?_
         rotate_left 2
         ·go_simp
          constructor
          ·rfl
          ·rfl
         refine hK.out _ _ ⟨(blk_cell (blk_alloc BK201.out _) 0).trans rfl, (blk_cell (blk_alloc BK201.out _) 1).trans rfl⟩ (fun hHeld => ?_)
         clear hK K
         refine norm_ (a' := ?_) ?_ ?_
         rotate_left
         ·show Act.put _ (some 20) _ = _
          simp only [Act.put, List.setIfInBounds_toArray, List.set_cons_zero, List.set_cons_succ, i64_w, i32_w]
          rfl
         refine one_ (i := 9) (N := some 21) #[J_,J_,J_,J_,J_,J_,J_,J_,J_,J_,N_] rfl rfl (one_of HT_.out (by kernel_rfl)) (by decide) (fun K hK => ?_)
         refine Kd.R_append_step Kd.string (w0 := w) w.heap.size (by rfl) (.tmp 12) (.tmp 20) 53 9 (.string ⟨#[]⟩) 16 rfl Try.underlying53 info9 rfl (by decide) (by omega) u3 x3_1 ((((rd_T39 l0 x8_1).f0) ++ (⟨#[61]⟩ : ByteArray)) ++ t202) [.string ((((rd_T39 l0 x8_1).f0) ++ (⟨#[61]⟩ : ByteArray)) ++ t202)] (fun _ => True) (fun _ => False) rfl rfl ?aP (fun _ hk => hk.elim) ?aF ?aO ?aB ?aS ?aL ?_
         (case aP => exact rfl)
         (case aB => exact (by repeat (first | (with_reducible first | exact HB.out | apply below_alloc | apply pw_below_drewN | apply below_drew1 | refine below_set ?_ GE201.out) | exact HB.out)))
         (case aF => exact (fun _ _ => trivial))
         (case aO => exact (rz HO_3.out))
         (case aS => exact (below_size (by repeat (first | (with_reducible first | exact HB.out | apply below_alloc | apply pw_below_drewN | apply below_drew1 | refine below_set ?_ GE201.out) | exact HB.out))))
         (case aL => have := LMc8.out; omega)
         intro v204 w14 ho hb hg hat
         rw [← Ny203.out] at ho
         have n0_ := Aside0.mk (blk_grown (g := gb201) (o := .cells #[.string ((rd_T39 l0 x8_1).f0), .string ((rd_T39 l0 x8_1).f1)] 39 (0, 0)) (bz BK201.out) hg (Kd.R_ne HO_3.out BK201.out (by decide)))
         have n1_ := Aside0.mk (hb)
         have n2_ := Aside0.mk (ho)
         clear BK201
         clear HB
         clear HO_3
         have BK201 := n0_
         have HB := n1_
         have HO205 := n2_
         clear n0_ n1_ n2_
         clear ho hb hg hat
         refine hK.out _ _ ⟨(blk_cell BK201.out 0).trans rfl, (blk_cell BK201.out 1).trans rfl⟩ (fun hHeld => ?_)
         clear hK K
         refine norm_ (a' := ?_) ?_ ?_
         rotate_left
         ·show Act.put _ (some 21) _ = _
          simp only [Act.put, List.setIfInBounds_toArray, List.set_cons_zero, List.set_cons_succ, i64_w, i32_w]
          rfl
         refine pY 10 3 #[J_,J_,J_,J_,J_,J_,J_,J_,J_,J_,J_] HT_.out ?_
         refine done_ (done_of HT_.out (by kernel_rfl)) ?_
         try go_wp2
         go_roundg k1
         case measure => have := HK1.out; omega
         case rel => exact ⟨(y203), (wrap64 (x8_1 + 1)), rs, H', ⟨by have := HK1.out; omega⟩, ⟨rz HO205.out⟩, ⟨by repeat (first | (with_reducible first | exact HB.out | apply below_alloc | apply pw_below_drewN | apply below_drew1 | refine below_set ?_ GE201.out) | exact HB.out)⟩⟩
        ·rw [if_neg c8] at H
         exact absurd H (by simp)
       ·rw [if_neg c7] at H
        exact absurd H (by simp)
      ·rw [if_neg c5] at H
       exact absurd H (by simp)
     ·rw [if_neg c4] at H
      exact absurd H (by simp)
    ·rw [if_neg c3] at H
     exact absurd H (by simp)
   ·rw [if_neg c2] at H
    have c2b0 : decide (x8_1 < (l0.length : Int)) = false := decide_eq_false c2
    clear c2
    replace H := Option.bind_eq_some_iff.mp H
    obtain ⟨t206, A150, H⟩ := H
    replace H : (some t206) = some r := H
    have A15 := Aside0.mk A150
    clear A150
    obtain rfl := Option.some.inj H
    obtain ⟨Ao16, co16, eo16⟩ := Kd.R_slice HO_3.out
    subst eo16
    go_wp2_with (first | ((with_reducible refine gate_callee (f := 32) rfl ?_); refine goesL_ (some 24) rfl rfl Try.func32 (by kernel_rfl) rfl #[.string (⟨#[32]⟩ : ByteArray), .slice Ao16 x3_1.length co16] rfl ml ?_; (with_reducible refine (quote_Join.calls _ _ _ _ _ _ ?side1 ?side2 A15.out).mono ?_); (case side1 => exact cz (Kd.R_reads' HO_3.out).2.2); (case side2 => exact (Kd.R_reads' HO_3.out).2.1); rintro e w17 ⟨rfl, hb⟩; refine ⟨_, rfl, ?_⟩; have n0_ := Aside0.mk (Kd.R_below (rz HO_3.out) hb); have n1_ := Aside0.mk (below_step bl hb); clear HO_3; clear HB; have HO_3 := n0_; have HB := n1_; clear n0_ n1_; (try clear hb); (try clear hb2); (try clear hk); (try clear hi)))
    go_ret
    exact ⟨by first | rfl | (simp [errW_none, errW_some] <;> rfl) | (simp [*, errW_none, errW_some] <;> rfl), bl⟩

/-! ### label_Set_Get: function 20 -/
def label_Set_Get.l0 : Nat → ByteArray → List (S39) → Int → Int → Option (ByteArray × Bool)
 | 0, _, _, _, _ => none
 | k + 1, x1, x8, x9, x10 => if x10 < x9 then (if 0 ≤ x10 then (if x10 < (x8.length : Int) then (if ((rd_T39 x8 x10).f0).toList = x1.toList then (some ((rd_T39 x8 x10).f1, true)) else (label_Set_Get.l0 k x1 x8 x9 (wrap64 (x10 + 1)))) else (none)) else (none)) else (some ((⟨#[]⟩ : ByteArray), false))
def label_Set_Get.f (k : Nat) (l0 : List (S39)) (a1 : ByteArray) : Option (ByteArray × Bool) := label_Set_Get.l0 k a1 l0 (l0.length : Int) 0
theorem label_Set_Get.mono_l : ∀ k, (∀ y0 y1 y2 y3, LeO (label_Set_Get.l0 k y0 y1 y2 y3) (label_Set_Get.l0 (k + 1) y0 y1 y2 y3))
 | 0 => fun _ _ _ _ r h => by simp [label_Set_Get.l0] at h
 | k + 1 => by
  have ih0 := label_Set_Get.mono_l k
  ·intro y0 y1 y2 y3
   unfold label_Set_Get.l0
   repeat' first
   | (with_reducible exact ih0 _ _ _ _)
   | (with_reducible exact LeO.refl _)
   | (with_reducible exact LeO.none _)
   | (with_reducible refine LeO.ite ?_ ?_)
   | (with_reducible refine LeO.bind ?_ (fun _ => ?_))
   | exact ih0 _ _ _ _
   | exact LeO.none _
   | refine LeO.ite ?_ ?_
   | refine LeO.bind ?_ (fun _ => ?_)
theorem label_Set_Get.mono : ∀ a0 a1 k, LeO (label_Set_Get.f k a0 a1) (label_Set_Get.f (k + 1) a0 a1) := by
 intro a0 a1 k
 have ih0 := label_Set_Get.mono_l k
 unfold label_Set_Get.f
 repeat' first
   | (with_reducible exact ih0 _ _ _ _)
   | (with_reducible exact LeO.refl _)
   | (with_reducible exact LeO.none _)
   | (with_reducible refine LeO.ite ?_ ?_)
   | (with_reducible refine LeO.bind ?_ (fun _ => ?_))
   | exact ih0 _ _ _ _
   | exact LeO.none _
   | refine LeO.ite ?_ ?_
   | refine LeO.bind ?_ (fun _ => ?_)
set_option maxHeartbeats 8000000 in
set_option maxRecDepth 100000 in
theorem label_Set_Get.calls (k : Nat) (A0 : Option Addr) (c0 : Nat) (l0 : List (S39)) (a1 : ByteArray) (r1 : ByteArray) (r2 : Bool) (w : World) (hr0 : Kd.C k39 w A0 l0.length l0) (hc0 : l0.length ≤ c0) (h : label_Set_Get.f k l0 a1 = some (r1, r2)) :
  Calls Try.prog 20 #[.slice A0 l0.length c0, .string a1] w fun e w' => e = .returned (.tuple #[.string r1, .bool r2]) ∧ Below w.heap.size w w' := by
 have hu39 := Try.underlying39
 have HR0 := Aside0.mk hr0
 have HC0 := Aside0.mk hc0
 clear hr0 hc0
 have HB := Aside0.mk (Below.refl w.heap.size w)
 have H : (label_Set_Get.l0 k a1 l0 (l0.length : Int) 0) = some (r1, r2) := h
 clear h
 have H' := Aside0.mk H
 clear H
 go_enter Try.func20, Try.ntmps20
 go_wp2
 go_loopg [10] k (fun kq v10 w' => ∃ (x10_1 : Int), v10 = .int .i64 x10_1 ∧ Aside0 (label_Set_Get.l0 kq a1 l0 (l0.length : Int) x10_1 = some (r1, r2)) ∧ Aside0 (kq ≤ k) ∧ Aside0 (Below w.heap.size w w'))
 case atStart => exact ⟨(0), rs, H', ⟨Nat.le_refl _⟩, ⟨bl⟩⟩
 case round =>
  clear H'
  try clear c2
  try clear p2
  obtain ⟨x10_1, rfl, HA, HK1, HB⟩ := hrel
  cases gk with
  | zero => exact absurd HA.out (by simp [label_Set_Get.l0])
  | succ k1 =>
   have H := HA.out
   clear HA
   simp only [label_Set_Get.l0] at H
   by_cases c3 : x10_1 < (l0.length : Int)
   ·rw [if_pos c3] at H
    have c3b0 := decide_eq_true c3
    clear c3
    by_cases c4 : 0 ≤ x10_1
    ·rw [if_pos c4] at H
     have c4b0 := decide_eq_true c4
     clear c4
     by_cases c5 : x10_1 < (l0.length : Int)
     ·rw [if_pos c5] at H
      have c5b0 := decide_eq_true c5
      clear c5
      by_cases c6 : ((rd_T39 l0 x10_1).f0).toList = a1.toList
      ·rw [if_pos c6] at H
       have c6b0 : (((rd_T39 l0 x10_1).f0).toList == a1.toList) = true := beq_iff_eq.mpr c6
       have c6b1 : (((rd_T39 l0 x10_1).f0).toList != a1.toList) = false := bne_eq_false_iff_eq.mpr c6
       clear c6
       simp only [Option.some.injEq, Prod.mk.injEq] at H
       obtain ⟨rfl, rfl⟩ := H
       have p207 : 0 ≤ (x10_1 : Int) := od
       have q207 : x10_1 < (l0.length : Int) := od
       obtain ⟨ad207, e207, hx207_0, hx207_1⟩ := at_T39 HR0.out x10_1 p207 q207
       cases e207
       replace hx207_0 := cu HB.out hx207_0
       replace hx207_1 := cu HB.out hx207_1
       replace p207 := eq_true p207
       replace q207 := eq_true q207
       go_wp2_with (first | ((with_reducible refine gate_dst (N := 7) rfl ?_); refine box_event ?hg (N := 7) ?hd (cs := #[.string (⟨#[]⟩ : ByteArray), .string (⟨#[]⟩ : ByteArray)]) (t := 39) ?hr ?_; (case hd => rfl); (case hg => rfl); (case hr => first | (go_simp; done) | (go_simp; rfl)); intro gb208 hg w7 hbox hb; have n0_ := Aside0.mk (below_step bl hb); have n1_ := Aside0.mk (hbox); have n2_ := Aside0.mk ((by rw [hg]; exact (below_size bl) : w.heap.size ≤ gb208)); have n3_ := Aside0.mk ((by rw [hg]; exact (below_size bl) : w.heap.size ≤ gb208)); clear HB; have HB := n0_; have BK208 := n1_; have GW208 := n2_; have GE208 := n3_; clear n0_ n1_ n2_ n3_; clear hb hbox hg; have hcz8_0 : w7.cell? ⟨gb208, 0, none⟩ = some (.string (⟨#[]⟩ : ByteArray)) := (blk_cell BK208.out 0).trans rfl; have hcz8_1 : w7.cell? ⟨gb208, 1, none⟩ = some (.string (⟨#[]⟩ : ByteArray)) := (blk_cell BK208.out 1).trans rfl; have hfz8_0 := blk_frozen BK208.out 0; have hfz8_1 := blk_frozen BK208.out 1))
       go_ret2
       exact ⟨by first | rfl | (simp [errW_none, errW_some] <;> rfl) | (simp [*, errW_none, errW_some] <;> rfl), by repeat (first | (with_reducible first | exact HB.out | apply below_alloc | apply pw_below_drewN | apply below_drew1 | refine below_set ?_ GE208.out) | exact HB.out)⟩
      ·rw [if_neg c6] at H
       have c6b0 : (((rd_T39 l0 x10_1).f0).toList == a1.toList) = false := beq_eq_false_iff_ne.mpr c6
       have c6b1 : (((rd_T39 l0 x10_1).f0).toList != a1.toList) = true := bne_iff_ne.mpr c6
       have H' := Aside0.mk H
       clear H
       have p207 : 0 ≤ (x10_1 : Int) := od
       have q207 : x10_1 < (l0.length : Int) := od
       obtain ⟨ad207, e207, hx207_0, hx207_1⟩ := at_T39 HR0.out x10_1 p207 q207
       cases e207
       replace hx207_0 := cu HB.out hx207_0
       replace hx207_1 := cu HB.out hx207_1
       replace p207 := eq_true p207
       replace q207 := eq_true q207
       go_wp2_with (first | ((with_reducible refine gate_dst (N := 7) rfl ?_); refine box_event ?hg (N := 7) ?hd (cs := #[.string (⟨#[]⟩ : ByteArray), .string (⟨#[]⟩ : ByteArray)]) (t := 39) ?hr ?_; (case hd => rfl); (case hg => rfl); (case hr => first | (go_simp; done) | (go_simp; rfl)); intro gb208 hg w9 hbox hb; have n0_ := Aside0.mk (below_step bl hb); have n1_ := Aside0.mk (hbox); have n2_ := Aside0.mk ((by rw [hg]; exact (below_size bl) : w.heap.size ≤ gb208)); have n3_ := Aside0.mk ((by rw [hg]; exact (below_size bl) : w.heap.size ≤ gb208)); clear HB; have HB := n0_; have BK208 := n1_; have GW208 := n2_; have GE208 := n3_; clear n0_ n1_ n2_ n3_; clear hb hbox hg; have hcz10_0 : w9.cell? ⟨gb208, 0, none⟩ = some (.string (⟨#[]⟩ : ByteArray)) := (blk_cell BK208.out 0).trans rfl; have hcz10_1 : w9.cell? ⟨gb208, 1, none⟩ = some (.string (⟨#[]⟩ : ByteArray)) := (blk_cell BK208.out 1).trans rfl; have hfz10_0 := blk_frozen BK208.out 0; have hfz10_1 := blk_frozen BK208.out 1))
       go_roundg k1
       case measure => have := HK1.out; omega
       case rel => exact ⟨(wrap64 (x10_1 + 1)), rs, H', ⟨by have := HK1.out; omega⟩, ⟨by repeat (first | (with_reducible first | exact HB.out | apply below_alloc | apply pw_below_drewN | apply below_drew1 | refine below_set ?_ GE208.out) | exact HB.out)⟩⟩
     ·rw [if_neg c5] at H
      exact absurd H (by simp)
    ·rw [if_neg c4] at H
     exact absurd H (by simp)
   ·rw [if_neg c3] at H
    have c3b0 : decide (x10_1 < (l0.length : Int)) = false := decide_eq_false c3
    clear c3
    simp only [Option.some.injEq, Prod.mk.injEq] at H
    obtain ⟨rfl, rfl⟩ := H
    go_wp2
    go_ret2
    exact ⟨by first | rfl | (simp [errW_none, errW_some] <;> rfl) | (simp [*, errW_none, errW_some] <;> rfl), bl⟩

end Go.Proofs.Ytielpefbgdilaaa.X
