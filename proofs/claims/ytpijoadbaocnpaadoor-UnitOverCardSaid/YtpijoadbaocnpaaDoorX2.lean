-- Laid by xprint.py, a program of this session's, out of the translation.
import Derived.Test.YtpijoadbaocnpaaDoorX0
import Derived.Test.YtpijoadbaocnpaaDoorX1
namespace Go.Proofs.YtpijoadbaocnpaaDoor.X
open Go.RowKit Go.Proofs.YtpijoadbaocnpaaDoorW.PrintWords Go.Proofs.YtpijoadbaocnpaaDoorW.PrintLast Go.Proofs.YtpijoadbaocnpaaDoorW.PrintMore
attribute [local go_sem] max2_int min2_int max_two min_two max_three min_three max_four min_four x_isSome x_str_gtr x_str_leq x_str_geq   -- for this text's walks alone
set_option linter.unusedVariables false
set_option linter.unusedSimpArgs false

/-! ### unit_table_part: function 24 -/
section
open Go.Lib Go.Shelf Go.Proofs
variable {P : Program}
def digN (r : Nat) : Bool := decide (48 ≤ r) && decide (r ≤ 57)
def othN (r : Nat) : Bool := !(digN r)
theorem isDig (w : World) : PredAt Tryd.prog 35 #[] encR digN w := fun W r _ => by
  unfold FnGives digN
  by_cases h1 : 48 ≤ r <;> by_cases h2 : r ≤ 57
  all_goals
    have z1 : (48 : Int) ≤ (r : Int) ↔ 48 ≤ r := by omega
    have z2 : (r : Int) ≤ 57 ↔ r ≤ 57 := by omega
    go_enter Tryd.func35, Tryd.ntmps35
    go_wp2
    all_goals first | (exfalso; omega) | (go_ret; exact ⟨by simp [h1, h2], 0, rfl⟩)
theorem isOth (w : World) (B : Nat) (hB : B < w.heap.size) (hc : w.cell? ⟨B, 0, none⟩ = some (.func (.func 35) #[] #[])) :
    PredAt Tryd.prog 36 #[.pointer (some ⟨B, 0, none⟩)] encR othN w := fun W r hb => by
  have hc' : W.cell? ⟨B, 0, none⟩ = some (.func (.func 35) #[] #[]) := (hb.cell (p := ⟨B, 0, none⟩) hB).trans hc
  unfold FnGives othN digN
  by_cases h1 : 48 ≤ r <;> by_cases h2 : r ≤ 57
  all_goals
    have z1 : (48 : Int) ≤ (r : Int) ↔ 48 ≤ r := by omega
    have z2 : (r : Int) ≤ 57 ↔ r ≤ 57 := by omega
    go_enter Tryd.func36, Tryd.ntmps36
    go_wp2
    all_goals first | (exfalso; omega) | (go_ret; exact ⟨by simp [h1, h2], 0, rfl⟩)
theorem idx_range (p : Nat → Bool) (s : ByteArray) : idxFunc p true s < 0 ∨ (0 ≤ idxFunc p true s ∧ idxFunc p true s < s.size) := by
  have := idxFuncFrom_range p true s s.size 0
  unfold idxFunc
  omega
theorem lit2 (W : World) (x y : Int) : Kd.C (Kd.int .i64) (W.alloc (.cells #[.int .i64 x, .int .i64 y] 2)) (some ⟨W.heap.size, 0, none⟩) [x, y].length [x, y] := by
  refine Kd.C_of_reads (d := (0 : Int)) (h1 := fun _ => rfl) ⟨rfl, by show 2 ≤ 9223372036854775807; omega, fun _ => ⟨_, rfl, fun j hj => ?_⟩⟩
  have hb := blk_new W (.cells #[.int .i64 x, .int .i64 y] 2)
  rw [YtpijoadbaocnpaaDoorW.PrintWords.add_plain]
  have hc := blk_cell hb j
  rw [hc]
  match j, hj with
  | 0, _ => rfl
  | 1, _ => rfl
theorem boxW (w : World) (x f : Value) : Below w.heap.size w ((w.alloc (.cells #[x] 44)).alloc (.cells #[f] 64)) ∧
    ((w.alloc (.cells #[x] 44)).alloc (.cells #[f] 64)).heap[w.heap.size]? = some (.cells #[x] 44 (0, 0)) ∧
    ((w.alloc (.cells #[x] 44)).alloc (.cells #[f] 64)).heap[w.heap.size + 1]? = some (.cells #[f] 64 (0, 0)) := by
  have hs : (w.alloc (.cells #[x] 44)).heap.size = w.heap.size + 1 := by simp
  refine ⟨below_alloc (below_alloc (Below.refl _ _) _) _, blk_alloc (blk_new w _) _, ?_⟩
  have := blk_new (w.alloc (.cells #[x] 44)) (.cells #[f] 64)
  rw [hs] at this
  exact this
def partE (l0 : List S59) (a1 : ByteArray) (n m : Nat) : Option (Int × Int × ByteArray × Bool) :=
  (num_Parse.f (a1.extract 0 n)).bind fun p => (unit_table_of.f 20 l0 (a1.extract n m)).bind fun u => if p.2 = true then (if u < 0 then some (0, 0, ⟨#[]⟩, false) else if u < (l0.length : Int) then (num_Mul.f 100 [p.1, (rd_T59 l0 u).f1]).bind fun q => some (q.1, u, a1.extract m a1.size, q.2) else none) else some (0, 0, ⟨#[]⟩, false)
def unit_table_part.f (l0 : List S59) (a1 : ByteArray) : Option (Int × Int × ByteArray × Bool) :=
  if a1.size ≤ 281474976710656 then
    (if idxFunc othN true a1 < 0 then some (0, 0, ⟨#[]⟩, false)
    else (if idxFunc digN true (a1.extract (idxFunc othN true a1).toNat a1.size) < 0 then partE l0 a1 (idxFunc othN true a1).toNat a1.size
      else partE l0 a1 (idxFunc othN true a1).toNat ((idxFunc othN true a1).toNat + (idxFunc digN true (a1.extract (idxFunc othN true a1).toNat a1.size)).toNat)))
  else none
set_option maxHeartbeats 8000000 in
set_option maxRecDepth 100000 in
theorem unit_table_part.calls (A0_0 : Option Addr) (c0_0 : Nat) (l0_0 : List (S59)) (a1 : ByteArray) (r1 : Int) (r2 : Int) (r3 : ByteArray) (r4 : Bool) (w : World) (hr0_0 : Kd.C k59 w A0_0 l0_0.length l0_0) (hc0_0 : l0_0.length ≤ c0_0) (h : unit_table_part.f l0_0 a1 = some (r1, r2, r3, r4)) (hLd : Laid w) :
    Calls Tryd.prog 24 #[.agg #[.slice A0_0 l0_0.length c0_0], .string a1] w fun e w' => e = .returned (.tuple #[.int .i64 r1, .int .i64 r2, .string r3, .bool r4]) ∧ Below w.heap.size w w' := by
  unfold unit_table_part.f at h
  split at h
  case isFalse => cases h
  rename_i hz
  have e35 := enters_of Tryd.func35 (by kernel_rfl) rfl
  have e36 := enters_of Tryd.func36 (by kernel_rfl) rfl
  obtain ⟨bb, b1, b2⟩ := boxW w (.slice A0_0 l0_0.length c0_0) (.func (.func 35) #[] #[])
  have BB := Aside0.mk bb
  have B1 := Aside0.mk b1
  have B2 := Aside0.mk b2
  clear bb b1 b2
  obtain ⟨at_, hat⟩ : ∃ q, idxFunc othN true a1 = q := ⟨_, rfl⟩
  have hrange := idx_range othN a1
  rw [hat] at h hrange
  by_cases c1 : at_ < 0
  · rw [if_pos c1] at h
    have h1 := Option.some.inj h
    injection h1 with e1 h1
    injection h1 with e2 h1
    injection h1 with e3 e4
    subst e1 e2 e3 e4
    have c1b : decide (at_ < 0) = true := decide_eq_true c1
    go_enter Tryd.func24, Tryd.ntmps24
    go_wp2_with (go_at_call 37; refine (Tryd.strings_IndexFunc 36 _ e36 othN a1 _ (isOth _ _ (by simp) (by simp))).mono ?_; rintro e w1 ⟨rfl, hb1⟩; rw [hat]; have HB1 := Aside0.mk (below_step BB.out hb1); clear hb1)
    refine bodyPost_ret (results_list (rs := [.tmp 4, .tmp 5, .tmp 6, .tmp 7]) rfl (by simp) (.tmp (.tmp (.tmp (.tmp .nil))))) rfl ?_
    exact ⟨rfl, HB1.out⟩
  · rw [if_neg c1] at h
    have hr2 : 0 ≤ at_ ∧ at_ < a1.size := hrange.resolve_left c1
    have c1b : decide (at_ < 0) = false := decide_eq_false c1
    obtain ⟨n, rfl⟩ := Int.eq_ofNat_of_zero_le hr2.1
    rw [Int.toNat_natCast] at h
    obtain ⟨tl, htl⟩ : ∃ q, a1.extract n a1.size = q := ⟨_, rfl⟩
    have htz : tl.size = a1.size - n := by rw [← htl]; simp
    obtain ⟨e0, he0⟩ : ∃ q, idxFunc digN true tl = q := ⟨_, rfl⟩
    have hrange2 := idx_range digN tl
    rw [htl, he0] at h
    rw [he0] at hrange2
    obtain ⟨m, hm⟩ : ∃ q : Nat, (if e0 < 0 then a1.size else n + e0.toNat) = q := ⟨_, rfl⟩
    have hP : partE l0_0 a1 n m = some (r1, r2, r3, r4) := by
      by_cases c2 : e0 < 0
      · rw [if_pos c2] at h hm
        rw [← hm]
        exact h
      · rw [if_neg c2] at h hm
        rw [← hm]
        exact h
    have hnm : n ≤ m ∧ m ≤ a1.size := by
      by_cases c2 : e0 < 0
      · rw [if_pos c2] at hm
        omega
      · rw [if_neg c2] at hm
        omega
    clear h
    have HP := Aside0.mk hP
    have HN := Aside0.mk hnm
    have HZ := Aside0.mk hz
    have HR2 := Aside0.mk hr2
    have HM := Aside0.mk hm
    have HR := Aside0.mk hrange2
    have HTZ := Aside0.mk htz
    unfold partE at hP
    obtain ⟨⟨p1, p2⟩, hp0, hP⟩ := Option.bind_eq_some_iff.mp hP
    obtain ⟨u, hu0, hP⟩ := Option.bind_eq_some_iff.mp hP
    have HPA := Aside0.mk hp0
    have HU := Aside0.mk hu0
    have HQ := Aside0.mk hP
    have HL := Aside0.mk hLd
    clear hp0 hu0 hP hnm hz hr2 hm hrange2 hrange htz c1 HP hLd
    go_enter Tryd.func24, Tryd.ntmps24
    go_upto_region 6 with (go_at_call 37; refine (Tryd.strings_IndexFunc 36 _ e36 othN a1 _ (isOth _ _ (by simp) (by simp))).mono ?_; rintro e w1 ⟨rfl, hb1⟩; rw [hat]; have HB1 := Aside0.mk (below_step BB.out hb1); have G1 := Aside0.mk (blk_below B1.out hb1); have G2 := Aside0.mk (blk_below B2.out hb1); have g2c := blk_cell G2.out 0; clear hb1)
    go_cut [11] (fun v11 wc => v11 = .int .i64 e0 ∧ Aside0 (wc.heap[w.heap.size]? = some (.cells #[.slice A0_0 l0_0.length c0_0] 44 (0, 0))) ∧ Aside0 (Below w.heap.size w wc))
    case first =>
      have q1 : 0 ≤ (n : Int) := HR2.out.1
      have q2 : (n : Int) ≤ a1.size := by have := HR2.out.2; omega
      go_region_with (go_at_call 37; refine (Tryd.strings_IndexFunc 35 _ e35 digN _ _ (isDig _)).mono ?_; rintro e w2 ⟨rfl, hb2⟩; have HB2 := Aside0.mk (below_step (below_drew1 HB1.out) hb2); have G12 := Aside0.mk (blk_below (blk_drew G1.out) hb2); clear hb2; rw [he0])
      all_goals
        go_simp
        go_wp2
        go_meet
        case rel => exact ⟨rfl, G12, HB2⟩
    case rest =>
      clear G1 G2 g2c HB1
      obtain ⟨rfl, G1, HB1⟩ := hcut
      go_upto_if 25 with (fail)
      go_cut [11] (fun v11 wc => v11 = .int .i64 ((m : Int) - n) ∧ Aside0 (wc.heap[w.heap.size]? = some (.cells #[.slice A0_0 l0_0.length c0_0] 44 (0, 0))) ∧ Aside0 (Below w.heap.size w wc))
      case first =>
        by_cases c2 : e0 < 0
        · have c2b : decide (e0 < 0) = true := decide_eq_true c2
          have hmm := HM.out
          rw [if_pos c2] at hmm
          have hw : wrap64 ((a1.size : Int) - n) = (m : Int) - n := by
            have := HN.out
            have := HZ.out
            rw [hmm]
            unfold wrap64
            omega
          clear hmm
          go_wp2
          go_meet
          case rel => exact ⟨by first | rfl | (rw [← hw]; rfl) | (simp [hw]), G1, HB1⟩
        · have c2b : decide (e0 < 0) = false := decide_eq_false c2
          have hmm := HM.out
          rw [if_neg c2] at hmm
          have hw : e0 = (m : Int) - n := by omega
          clear hmm
          go_wp2
          go_meet
          case rel => exact ⟨by first | rfl | (rw [← hw]), G1, HB1⟩
      case rest =>
        clear G1 HB1
        obtain ⟨rfl, G1, HB1⟩ := hcut
        have q1 : 0 ≤ (n : Int) := HR2.out.1
        have q2 : (n : Int) ≤ a1.size := by have := HR2.out.2; omega
        go_upto_region 10 with (go_at_call 38; refine (num_Parse.calls _ p1 p2 _ HPA.out (laid_below HL.out HB1.out)).mono ?_; rintro e w3 ⟨rfl, hb3⟩; have HB3 := Aside0.mk (below_step HB1.out hb3); have G3 := Aside0.mk (blk_below G1.out hb3); have g3c := blk_cell G3.out 0; clear hb3)
        go_cut [5] (fun v5 wc => v5 = .int .i64 u ∧ Aside0 (wc.heap[w.heap.size]? = some (.cells #[.slice A0_0 l0_0.length c0_0] 44 (0, 0))) ∧ Aside0 (Below w.heap.size w wc))
        case first =>
          have hw : wrap64 ((n : Int) + ((m : Int) - n)) = (m : Int) := by
            have := HN.out
            have := HZ.out
            unfold wrap64
            omega
          have hw2 : IntKind.i64.wrap ((n : Int) + ((m : Int) - n)) = (m : Int) := (i64_w _).trans hw
          have q3 : (n : Int) ≤ (m : Int) := by have := HN.out; omega
          have q4 : (m : Int) ≤ a1.size := by have := HN.out; omega
          have hu44 := Tryd.underlying44
          go_region_with (go_at_call 39; refine (unit_table_of.calls 20 A0_0 c0_0 l0_0 _ u _ (Kd.C_below hr0_0 (below_drew1 HB3.out)) hc0_0 HU.out).mono ?_; rintro e w4 ⟨rfl, hb4⟩; have HB4 := Aside0.mk (below_step (below_drew1 HB3.out) hb4); have G4 := Aside0.mk (blk_below (blk_drew G3.out) hb4); clear hb4)
          all_goals
            go_simp
            go_wp2
            go_meet
            case rel => exact ⟨rfl, G4, HB4⟩
        case rest =>
          clear G3 g3c HB3 G1 HB1
          obtain ⟨rfl, G1, HB1⟩ := hcut
          have H := HQ.out
          clear HQ
          by_cases c3 : p2 = true
          · subst c3
            rw [if_pos rfl] at H
            by_cases c4 : u < 0
            · rw [if_pos c4] at H
              have c4b : decide (u < 0) = true := decide_eq_true c4
              have h1 := Option.some.inj H
              injection h1 with e1 h1
              injection h1 with e2 h1
              injection h1 with e3 e4
              subst e1 e2 e3 e4
              go_wp2
              refine bodyPost_ret (results_list (rs := [.tmp 4, .tmp 5, .tmp 6, .tmp 7]) rfl (by simp) (.tmp (.tmp (.tmp (.tmp .nil))))) rfl ?_
              exact ⟨rfl, HB1.out⟩
            · rw [if_neg c4] at H
              have c4b : decide (u < 0) = false := decide_eq_false c4
              by_cases c5 : u < (l0_0.length : Int)
              · rw [if_pos c5] at H
                obtain ⟨⟨m1, m2⟩, hm0, H⟩ := Option.bind_eq_some_iff.mp H
                have h1 := Option.some.inj H
                injection h1 with e1 h1
                injection h1 with e2 h1
                injection h1 with e3 e4
                subst e1 e2 e3 e4
                have HMU := Aside0.mk hm0
                clear hm0 H
                have hu44 := Tryd.underlying44
                have g1c := blk_cell G1.out 0
                obtain ⟨ad, rfl, hc0, hc1⟩ := at_T59 (Kd.C_below hr0_0 HB1.out) u (by omega) c5
                have hge : 0 ≤ u := by omega
                go_upto_region 14 with (go_at_call 40; refine (num_Mul.calls 100 _ _ _ m1 m2 _ (lit2 _ _ _) (Nat.le_refl _) HMU.out).mono ?_; rintro e w5 ⟨rfl, ⟨q5, rfl⟩⟩)
                have HB5 := Aside0.mk (pw_below_drewN (below_alloc HB1.out (.cells #[.int .i64 p1, .int .i64 (rd_T59 l0_0 u).f1] 2)) q5)
                have hw : wrap64 ((n : Int) + ((m : Int) - n)) = (m : Int) := by
                  have := HN.out
                  have := HZ.out
                  unfold wrap64
                  omega
                have hw2 : IntKind.i64.wrap ((n : Int) + ((m : Int) - n)) = (m : Int) := (i64_w _).trans hw
                have q3 : 0 ≤ (m : Int) := by omega
                have q4 : (m : Int) ≤ a1.size := by have := HN.out; omega
                go_still (by kernel_rfl)
                go_wp2
                refine bodyPost_ret (results_list (rs := [.tmp 4, .tmp 5, .tmp 6, .tmp 7]) rfl (by simp) (.tmp (.tmp (.tmp (.tmp .nil))))) rfl ?_
                exact ⟨rfl, below_drew1 HB5.out⟩
              · rw [if_neg c5] at H
                cases H
          · rw [if_neg c3] at H
            have c3b : p2 = false := by simpa using c3
            subst c3b
            have h1 := Option.some.inj H
            injection h1 with e1 h1
            injection h1 with e2 h1
            injection h1 with e3 e4
            subst e1 e2 e3 e4
            go_wp2
            refine bodyPost_ret (results_list (rs := [.tmp 4, .tmp 5, .tmp 6, .tmp 7]) rfl (by simp) (.tmp (.tmp (.tmp (.tmp .nil))))) rfl ?_
            exact ⟨rfl, HB1.out⟩
end

/-! ### num_Add_1: function 42 -/
def num_Add_1.f (a0 : Int) (a1 : Int) : Option (Int × Bool) := some (wrap64 (a0 + a1), ((decide ((wrap64 (a0 + a1)) < a0)) == (decide (a1 < 0))))
set_option maxHeartbeats 8000000 in
set_option maxRecDepth 100000 in
theorem num_Add_1.calls (a0 : Int) (a1 : Int) (r1 : Int) (r2 : Bool) (w : World) (h : num_Add_1.f a0 a1 = some (r1, r2)) :
    Calls Tryd.prog 42 #[.int .i64 a0, .int .i64 a1] w fun e w' => e = .returned (.tuple #[.int .i64 r1, .bool r2]) ∧ Drawn0 w w' := by
  have H : (some (wrap64 (a0 + a1), ((decide ((wrap64 (a0 + a1)) < a0)) == (decide (a1 < 0))))) = some (r1, r2) := h
  clear h
  simp only [Option.some.injEq, Prod.mk.injEq] at H
  obtain ⟨rfl, rfl⟩ := H
  go_enter Tryd.func42, Tryd.ntmps42
  go_wp2
  go_ret2
  exact ⟨by first | rfl | (simp; done) | (simp [*]; done), by repeat (first | exact Drawn0.refl _ | apply Drawn0.step)⟩

/-! ### num_fold_num_Add_1: function 41 -/
def num_fold_num_Add_1.l0 : Nat → Int → List Int → Int → Int → Option (Int × Bool)
  | 0, _, _, _, _ => none
  | k + 1, x6, x11, x12, x13 => if x13 < x12 then (if 0 ≤ x13 then (if x13 < (x11.length : Int) then ((num_Add_1.f x6 (rd x11 x13)).bind fun bt123 => (if bt123.2 = true then (num_fold_num_Add_1.l0 k bt123.1 x11 x12 (wrap64 (x13 + 1))) else (some (0, false)))) else (none)) else (none)) else (some (x6, true))
def num_fold_num_Add_1.f (k : Nat) (a0 : Int)  (l2 : List Int) : Option (Int × Bool) := num_fold_num_Add_1.l0 k a0 l2 (l2.length : Int) 0
theorem num_fold_num_Add_1.mono_l : ∀ k, (∀ y0 y1 y2 y3, LeO (num_fold_num_Add_1.l0 k y0 y1 y2 y3) (num_fold_num_Add_1.l0 (k + 1) y0 y1 y2 y3))
  | 0 => fun _ _ _ _ r h => by simp [num_fold_num_Add_1.l0] at h
  | k + 1 => by
    have ih0 := num_fold_num_Add_1.mono_l k
    · intro y0 y1 y2 y3
      unfold num_fold_num_Add_1.l0
      repeat' first
      | (with_reducible exact ih0 _ _ _ _)
      | (with_reducible exact LeO.refl _)
      | (with_reducible exact LeO.none _)
      | (with_reducible refine LeO.ite ?_ ?_)
      | (with_reducible refine LeO.bind ?_ (fun _ => ?_))
      | exact ih0 _ _ _ _
      | exact LeO.none _
      | refine LeO.ite ?_ ?_
      | refine LeO.bind ?_ (fun _ => ?_)
theorem num_fold_num_Add_1.mono : ∀ a0 a1 k, LeO (num_fold_num_Add_1.f k a0 a1) (num_fold_num_Add_1.f (k + 1) a0 a1) := by
  intro a0 a1 k
  have ih0 := num_fold_num_Add_1.mono_l k
  unfold num_fold_num_Add_1.f
  repeat' first
      | (with_reducible exact ih0 _ _ _ _)
      | (with_reducible exact LeO.refl _)
      | (with_reducible exact LeO.none _)
      | (with_reducible refine LeO.ite ?_ ?_)
      | (with_reducible refine LeO.bind ?_ (fun _ => ?_))
      | exact ih0 _ _ _ _
      | exact LeO.none _
      | refine LeO.ite ?_ ?_
      | refine LeO.bind ?_ (fun _ => ?_)
set_option maxHeartbeats 8000000 in
set_option maxRecDepth 100000 in
theorem num_fold_num_Add_1.calls (k : Nat) (a0 : Int)  (A2 : Option Addr) (c2 : Nat) (l2 : List Int) (r1 : Int) (r2 : Bool) (w : World) (hr2 : Kd.C (Kd.int .i64) w A2 l2.length l2) (hc2 : l2.length ≤ c2) (h : num_fold_num_Add_1.f k a0 l2 = some (r1, r2)) :
    Calls Tryd.prog 41 #[.int .i64 a0, .func (.func 42) #[] #[], .slice A2 l2.length c2] w fun e w' => e = .returned (.tuple #[.int .i64 r1, .bool r2]) ∧ Drawn0 w w' := by
  have HR2 := Aside0.mk hr2
  have HC2 := Aside0.mk hc2
  clear hr2 hc2
  have H : (num_fold_num_Add_1.l0 k a0 l2 (l2.length : Int) 0) = some (r1, r2) := h
  clear h
  have H' := Aside0.mk H
  clear H
  go_enter Tryd.func41, Tryd.ntmps41
  go_wp2
  go_loopg [6, 13] k (fun kq v6 v13 w' => ∃ (x6_1 : Int) (x13_1 : Int), v6 = .int .i64 x6_1 ∧ v13 = .int .i64 x13_1 ∧ Aside0 (num_fold_num_Add_1.l0 kq x6_1 l2 (l2.length : Int) x13_1 = some (r1, r2)) ∧ Aside0 (kq ≤ k) ∧ Drawn0 w w')
  case atStart => exact ⟨(a0), (0), (by first | rfl | (simp; done) | (simp [*]; done)), (by first | rfl | (simp; done) | (simp [*]; done)), H', ⟨Nat.le_refl _⟩, by repeat (first | exact Drawn0.refl _ | apply Drawn0.step)⟩
  case round =>
    clear H'
    try clear c2
    try clear p2
    obtain ⟨x6_1, x13_1, rfl, rfl, HA, HK1, ⟨m1, rfl⟩⟩ := hrel
    cases gk with
    | zero => exact absurd HA.out (by simp [num_fold_num_Add_1.l0])
    | succ k1 =>
      have H := HA.out
      clear HA
      simp only [num_fold_num_Add_1.l0] at H
      by_cases c4 : x13_1 < (l2.length : Int)
      · rw [if_pos c4] at H
        have c4b0 : decide (x13_1 < (l2.length : Int)) = true := decide_eq_true c4
        clear c4
        by_cases c5 : 0 ≤ x13_1
        · rw [if_pos c5] at H
          have c5b0 : decide (0 ≤ x13_1) = true := decide_eq_true c5
          clear c5
          by_cases c6 : x13_1 < (l2.length : Int)
          · rw [if_pos c6] at H
            have c6b0 : decide (x13_1 < (l2.length : Int)) = true := decide_eq_true c6
            clear c6
            replace H := Option.bind_eq_some_iff.mp H
            obtain ⟨⟨t123, t124⟩, A70, H⟩ := H
            replace H : (if t124 = true then (num_fold_num_Add_1.l0 k1 t123 l2 (l2.length : Int) (wrap64 (x13_1 + 1))) else (some (0, false))) = some (r1, r2) := H
            have A7 := Aside0.mk A70
            clear A70
            by_cases c8 : t124 = true
            · subst c8
              have H1 : (num_fold_num_Add_1.l0 k1 t123 l2 (l2.length : Int) (wrap64 (x13_1 + 1))) = some (r1, r2) := by rw [if_pos rfl] at H; exact H
              clear H
              have H := H1
              clear H1
              have H' := Aside0.mk H
              clear H
              have p122 : 0 ≤ (x13_1 : Int) := of_decide_eq_true (by first | (with_reducible assumption) | assumption)
              have q122 : x13_1 < (l2.length : Int) := of_decide_eq_true (by first | (with_reducible assumption) | assumption)
              obtain ⟨ad122, e122, hx122_0⟩ := Kd.at_int HR2.out x13_1 p122 q122
              cases e122
              replace p122 := eq_true p122
              replace q122 := eq_true q122
              go_wp2_with (first | ((with_reducible refine x_gate_calleeT rfl ?_); refine x_goesLT_ (some 21) rfl rfl Tryd.func42 (by kernel_rfl) rfl #[.int .i64 x6_1, .int .i64 (rd l2 x13_1)] rfl (by first | rfl | (simp [Act.eval, Act.put]; done)) (by (try simp only [List.map_toArray, List.map_cons, List.map_nil]); first | done | rfl | (simp only [List.length_drop, List.length_take]; rfl)) ?_; (with_reducible refine (num_Add_1.calls x6_1 (rd l2 x13_1) t123 true _ A7.out).mono ?_); rintro e w' ⟨rfl, ⟨nd, rfl⟩⟩; refine ⟨_, rfl, ?_⟩))
              go_roundg k1
              case measure => have := HK1.out; omega
              case rel => exact ⟨(t123), (wrap64 (x13_1 + 1)), (by first | rfl | (simp; done) | (simp [*]; done)), (by first | rfl | (simp; done) | (simp [*]; done)), H', ⟨by have := HK1.out; omega⟩, by repeat (first | exact Drawn0.refl _ | apply Drawn0.step)⟩
            · replace c8 := Bool.eq_false_iff.mpr c8
              subst c8
              have H1 : (some (0, false)) = some (r1, r2) := by rw [if_neg (show ¬ (false = true) by decide)] at H; exact H
              clear H
              have H := H1
              clear H1
              simp only [Option.some.injEq, Prod.mk.injEq] at H
              obtain ⟨rfl, rfl⟩ := H
              have p122 : 0 ≤ (x13_1 : Int) := of_decide_eq_true (by first | (with_reducible assumption) | assumption)
              have q122 : x13_1 < (l2.length : Int) := of_decide_eq_true (by first | (with_reducible assumption) | assumption)
              obtain ⟨ad122, e122, hx122_0⟩ := Kd.at_int HR2.out x13_1 p122 q122
              cases e122
              replace p122 := eq_true p122
              replace q122 := eq_true q122
              go_wp2_with (first | ((with_reducible refine x_gate_calleeT rfl ?_); refine x_goesLT_ (some 21) rfl rfl Tryd.func42 (by kernel_rfl) rfl #[.int .i64 x6_1, .int .i64 (rd l2 x13_1)] rfl (by first | rfl | (simp [Act.eval, Act.put]; done)) (by (try simp only [List.map_toArray, List.map_cons, List.map_nil]); first | done | rfl | (simp only [List.length_drop, List.length_take]; rfl)) ?_; (with_reducible refine (num_Add_1.calls x6_1 (rd l2 x13_1) t123 false _ A7.out).mono ?_); rintro e w' ⟨rfl, ⟨nd, rfl⟩⟩; refine ⟨_, rfl, ?_⟩))
              go_ret2
              exact ⟨by first | rfl | (simp; done) | (simp [*]; done), by repeat (first | exact Drawn0.refl _ | apply Drawn0.step)⟩
          · rw [if_neg c6] at H
            exact absurd H (by simp)
        · rw [if_neg c5] at H
          exact absurd H (by simp)
      · rw [if_neg c4] at H
        have c4b0 : decide (x13_1 < (l2.length : Int)) = false := decide_eq_false c4
        clear c4
        simp only [Option.some.injEq, Prod.mk.injEq] at H
        obtain ⟨rfl, rfl⟩ := H
        go_wp2
        go_ret2
        exact ⟨by first | rfl | (simp; done) | (simp [*]; done), by repeat (first | exact Drawn0.refl _ | apply Drawn0.step)⟩

/-! ### num_Add: function 25 -/
def num_Add.f (k : Nat) (l0 : List Int) : Option (Int × Bool) := (num_fold_num_Add_1.f k 0 l0).bind fun bt125 => (some (bt125.1, bt125.2))
theorem num_Add.mono : ∀ a0 k, LeO (num_Add.f k a0) (num_Add.f (k + 1) a0) := by
  intro a0 k
  unfold num_Add.f
  repeat' first
      | (with_reducible exact num_fold_num_Add_1.mono _ _ _)
      | (with_reducible exact LeO.refl _)
      | (with_reducible exact LeO.none _)
      | (with_reducible refine LeO.ite ?_ ?_)
      | (with_reducible refine LeO.bind ?_ (fun _ => ?_))
      | exact num_fold_num_Add_1.mono _ _ _
      | exact LeO.none _
      | refine LeO.ite ?_ ?_
      | refine LeO.bind ?_ (fun _ => ?_)
set_option maxHeartbeats 8000000 in
set_option maxRecDepth 100000 in
theorem num_Add.calls (k : Nat) (A0 : Option Addr) (c0 : Nat) (l0 : List Int) (r1 : Int) (r2 : Bool) (w : World) (hr0 : Kd.C (Kd.int .i64) w A0 l0.length l0) (hc0 : l0.length ≤ c0) (h : num_Add.f k l0 = some (r1, r2)) :
    Calls Tryd.prog 25 #[.slice A0 l0.length c0] w fun e w' => e = .returned (.tuple #[.int .i64 r1, .bool r2]) ∧ Drawn0 w w' := by
  have HR0 := Aside0.mk hr0
  have HC0 := Aside0.mk hc0
  clear hr0 hc0
  have H : ((num_fold_num_Add_1.f k 0 l0).bind fun bt125 => (some (bt125.1, bt125.2))) = some (r1, r2) := h
  clear h
  replace H := Option.bind_eq_some_iff.mp H
  obtain ⟨⟨t125, t126⟩, A20, H⟩ := H
  replace H : (some (t125, t126)) = some (r1, r2) := H
  have A2 := Aside0.mk A20
  clear A20
  simp only [Option.some.injEq, Prod.mk.injEq] at H
  obtain ⟨rfl, rfl⟩ := H
  go_enter Tryd.func25, Tryd.ntmps25
  go_wp2_with (first | ((with_reducible refine gate_callee (f := 41) rfl ?_); refine goesL_ (some 5) rfl rfl Tryd.func41 (by kernel_rfl) rfl #[.int .i64 0, .func (.func 42) #[] #[], .slice A0 l0.length c0] rfl (by (try simp only [List.map_toArray, List.map_cons, List.map_nil]); first | done | rfl | (simp only [List.length_drop, List.length_take]; rfl)) ?_; (with_reducible refine (num_fold_num_Add_1.calls k 0 _ _ l0 t125 t126 _ ?side1 ?side2 A2.out).mono ?_); (case side1 => repeat (first | exact HR0.out | (with_reducible refine Kd.C_alloc ?_ _) | (with_reducible refine Kd.C_drewN ?_ _) | (with_reducible refine Kd.C_drew ?_))); (case side2 => exact HC0.out); rintro e w' ⟨rfl, ⟨nd, rfl⟩⟩; refine ⟨_, rfl, ?_⟩))
  go_ret2
  exact ⟨by first | rfl | (simp; done) | (simp [*]; done), by repeat (first | exact Drawn0.refl _ | apply Drawn0.step)⟩

end Go.Proofs.YtpijoadbaocnpaaDoor.X
