/- HeapPlays: numbers are pushed, popped, drained, deed by deed, by their tens, as the chapter says. -/
import Derived.Test.YtbmmlkifhhpjcaaX82
namespace Go.Proofs.Ytbmmlkifhhpjcaa.X
open Go.RowKit Go.Proofs.YtbmmlkifhhpjcaaW.PrintWords Go.Proofs.YtbmmlkifhhpjcaaW.PrintLast Go.Proofs.YtbmmlkifhhpjcaaW.PrintMore
attribute [local go_sem] max2_int min2_int max_two min_two max_three min_three max_four min_four
set_option linter.unusedVariables false
set_option linter.unusedSimpArgs false

open Go.Proofs.Ytbmmlkifhhpjcaa
def rd_L2 (xs : List (List Int)) (i : Int) : (List Int) := xs.getD i.toNat ([] : List Int)
theorem at_L2 {w : World} {A : Option Addr} {n : Nat} {xs : List (List Int)} (h : Kd.C (Kd.slice 3 (Kd.int .i64)) w A n xs) (i : Int) (h0 : 0 ≤ i) (h1 : i < n) : ∃ ad A0 c0, A = some ad ∧ w.cell? (ad.add i.toNat) = some (.slice A0 (rd_L2 xs i).length c0) ∧ (rd_L2 xs i).length ≤ c0 ∧ (Kd.int .i64).C w A0 (rd_L2 xs i).length (rd_L2 xs i) := by
  obtain ⟨ad, c, e, _, hK, hc0⟩ := Kd.C_get h ([] : List Int) i h0 h1
  have hc : ∀ j u, c[j]? = some u → w.cell? (ad.add (i.toNat * 1 + j)) = some u := hc0
  obtain ⟨A0, c0, rfl, l0, g0⟩ := hK
  exact ⟨ad, A0, c0, e, by have hq := hc 0 _ rfl; rwa [Nat.mul_one, Nat.add_zero] at hq, l0, g0⟩

/-! #### struct type 33 -/
structure S33 where
  f0 : Int
  f1 : (List Int)
def z33 : S33 := ⟨(0 : Int), ([] : List Int)⟩
def k33 : Kd S33 := Kd.iso (Kd.pair (Kd.int .u8) (Kd.slice 3 (Kd.int .i64))) (fun x : S33 => (x.f0, x.f1))
theorem k33_open {w : World} {x : S33} {cs : List Value} (h : k33.K w x cs) : ∃ A1 c1, cs = [.int .u8 x.f0, .slice A1 x.f1.length c1] ∧ x.f1.length ≤ c1 ∧ (Kd.int .i64).C w A1 x.f1.length x.f1 := by
  obtain ⟨_, _, rfl, rfl, ⟨A1, c1, rfl, l1, g1⟩⟩ := h
  exact ⟨A1, c1, rfl, l1, g1⟩
theorem k33_openM {w : World} {base : Nat} {ok : Nat → Prop} {x : S33} {cs : List Value} (h : k33.M w base ok x cs) : ∃ v1, cs = [.int .u8 x.f0, v1] ∧ (Kd.int .i64).R 3 w base ok v1 x.f1 := by
  obtain ⟨_, _, rfl, rfl, ⟨v1, rfl, g1⟩⟩ := h
  exact ⟨v1, rfl, g1⟩
theorem k33_mk (w : World) (x : S33) {A1 : Option Addr} {c1 : Nat} (l1 : x.f1.length ≤ c1) (g1 : (Kd.int .i64).C w A1 x.f1.length x.f1) : k33.K w x [.int .u8 x.f0, .slice A1 x.f1.length c1] := ⟨[.int .u8 x.f0], [.slice A1 x.f1.length c1], rfl, rfl, ⟨A1, c1, rfl, l1, g1⟩⟩
theorem k33_mkM (w : World) (base : Nat) (ok : Nat → Prop) (x : S33) {v1 : Value} (g1 : (Kd.int .i64).R 3 w base ok v1 x.f1) : k33.M w base ok x [.int .u8 x.f0, v1] := ⟨[.int .u8 x.f0], [v1], rfl, rfl, ⟨v1, rfl, g1⟩⟩
def rd_T33 (xs : List S33) (i : Int) : S33 := xs.getD i.toNat z33
theorem at_T33 {w : World} {A : Option Addr} {n : Nat} {xs : List S33} (h : Kd.C k33 w A n xs) (i : Int) (h0 : 0 ≤ i) (h1 : i < n) : ∃ ad A1 c1, A = some ad ∧ w.cell? (ad.add (i.toNat * 2)) = some (.int .u8 (rd_T33 xs i).f0) ∧ w.cell? ⟨(ad.add (i.toNat * 2)).block, (ad.add (i.toNat * 2)).off + 1, none⟩ = some (.slice A1 (rd_T33 xs i).f1.length c1) ∧ (rd_T33 xs i).f1.length ≤ c1 ∧ (Kd.int .i64).C w A1 (rd_T33 xs i).f1.length (rd_T33 xs i).f1 := by
  obtain ⟨ad, c, e, _, hK, hc0⟩ := Kd.C_get h z33 i h0 h1
  have hc : ∀ j u, c[j]? = some u → w.cell? (ad.add (i.toNat * 2 + j)) = some u := hc0
  obtain ⟨A1, c1, rfl, l1, g1⟩ := k33_open hK
  exact ⟨ad, A1, c1, e, hc 0 _ rfl, by rw [← add_field _ _ 1 (by omega)]; exact hc 1 _ rfl, l1, g1⟩

def archivistlaw15_HeapPlays.f (a0 : List Int) (a1 : List S33) : Option Bool := some true
set_option maxHeartbeats 8000000 in
set_option maxRecDepth 1000000 in
theorem archivistlaw15_HeapPlays.calls (A0 : Option Addr) (c0 : Nat) (l0 : List Int) (A1 : Option Addr) (c1 : Nat) (l1 : List S33) (r : Bool) (w : World) (hr0 : Kd.C (Kd.int .i64) w A0 l0.length l0) (hc0 : l0.length ≤ c0) (hr1 : Kd.C k33 w A1 l1.length l1) (hc1 : l1.length ≤ c1) (h : archivistlaw15_HeapPlays.f l0 l1 = some r) :
    Calls Try.prog 3 #[.slice A0 l0.length c0, .slice A1 l1.length c1] w fun e w' => e = .returned (.bool r) ∧ Below w.heap.size w w' := by
  obtain rfl : true = r := Option.some.inj h
  obtain ⟨xs, hxs⟩ : ∃ xs, l0.take 8 = xs := ⟨_, rfl⟩
  have hlx : xs.length ≤ l0.length ∧ xs.length ≤ 8 := by rw [← hxs, List.length_take]; omega
  have hmn : (if (8 : Int) < (l0.length : Int) then 8 else (l0.length : Int)) = (xs.length : Int) := by
    rw [← hxs, List.length_take]
    split <;> omega
  have hC : Kd.C (Kd.int .i64) w A0 xs.length xs := by
    have := Kd.C_take hr0 (m := xs.length) hlx.1
    rwa [show l0.take xs.length = xs by rw [← hxs, List.length_take, List.take_eq_take_iff]; omega] at this
  have HC := Aside0.mk hC
  have HL1 := Aside0.mk hr1
  have HB := Aside0.mk (Below.refl w.heap.size w)
  have HN := Aside0.mk hlx
  have q1 : 0 ≤ (xs.length : Int) := by omega
  have q2 : (xs.length : Int) ≤ (c0 : Int) := by omega
  clear h hr0 hr1 hC hxs
  go_enter Try.func3, Try.ntmps3
  go_upto_region 7 with (first
    | (go_at_call 7; (with_reducible refine (examples_calls _).mono ?_); rintro e w1 ⟨rfl, hb⟩; have n1_ := Aside0.mk (below_step HB.out hb); clear HB hb; have HB := n1_; clear n1_)
    | (go_at_call 8; (with_reducible refine (new92_calls _ _ _ xs (Kd.C_below HC.out HB.out) (by omega)).mono ?_); rintro e w2 ⟨rfl, r0, hS, hb⟩; have HS := Aside0.mk hS; have HW := Aside0.mk HB.out.size; have n1_ := Aside0.mk (below_step HB.out hb); clear HB hb hS; have HB := n1_; clear n1_))
  have HD : Aside0 (Duo w (w2.alloc (.cells #[.slice none 0 0] 30)) w1.heap.size w2.heap.size (pushL ah92 mk92 [] 0 xs) [] xs.length) := ⟨r0, none, HS.out.below (below_alloc (Below.refl _ _) _), ⟨_, rfl, blk_new w2 _, Kd.R_nil _ _ _ _ _, Nat.le_refl _⟩, fun e => by have := (HS.out.row_ _ e).2.1; omega, by simp, fun b hb => (by cases hb), (by have := HS.out.lt.1; omega), below_alloc HB.out _, HW.out, HB.out.size⟩
  have hal := (Alike.nil 0).push xs
  rw [List.nil_append, List.nil_append, Int.zero_add] at hal
  obtain ⟨M0, hM0⟩ : ∃ M0, pushL ah92 mk92 [] 0 xs = M0 := ⟨_, rfl⟩
  rw [hM0] at hal HD
  have AL := Aside0.mk hal
  generalize w1.heap.size = gh at HD HS HW ⊢
  generalize w2.heap.size = gx at HD ⊢
  clear hal hM0 HS HW HB
  go_upto_region 10 with (go_at_call 10; (with_reducible refine (duo_rpush HD.out _ _ xs HC.out (by have := HN.out; simp only [List.length_nil]; omega)).mono ?_); rintro e w3 ⟨rfl, hd⟩; rw [List.nil_append] at hd; clear HD; have HD := Aside0.mk hd; clear hd)
  go_wp2
  go_loopw [8] (fun v8 wr => ∃ (i : Nat) (M Q : List S92) (X : List Int) (came : Int), v8 = .int .i64 i ∧ i ≤ l1.length ∧ i ≤ 30 ∧ Aside0 (Duo w wr gh gx M X came) ∧ Aside0 (Alike M Q X came) ∧ Aside0 (0 ≤ came ∧ came ≤ 8 + 6 * (i : Int) ∧ X.length ≤ 8 + 6 * i)) (fun v8 _ => 30 - (intOf v8).toNat)
  case atStart => exact ⟨0, M0, _, xs, _, rfl, by omega, by omega, HD, AL, ⟨by have := HN.out; omega⟩⟩
  case round =>
    clear HD AL HC HN
    obtain ⟨i, M, Q, X, came, rfl, hil, hi30, HD, AL, BN⟩ := hrel
    by_cases hlt : i < l1.length ∧ i < 30
    · obtain ⟨hlt1, hlt2⟩ := hlt
      have b1 : decide ((i : Int) < (l1.length : Int)) = true := decide_eq_true (by omega)
      have b2 : (i : Int) < (l1.length : Int) := by omega
      have b3 : 0 ≤ (i : Int) := by omega
      have b4 : decide ((i : Int) < 30) = true := decide_eq_true (by omega)
      have hw3 : IntKind.i64.wrap ((i : Int) + 1) = (i : Int) + 1 := by rw [IntKind.wrap_i64]; omega
      obtain ⟨ad, An, cn, e1, x0, x1, xl, xc⟩ := at_T33 HL1.out (i : Int) b3 b2
      subst e1
      rw [Int.toNat_natCast] at x0 x1
      have HX0 : Aside0 (w.cell? (ad.add (i * 2)) = some (.int .u8 (rd_T33 l1 (i : Int)).f0)) := ⟨x0⟩
      have y0 := (HD.out.bel.cell (World.block_lt_of_cell? _ _ x0)).trans x0
      have y1 := (HD.out.bel.cell (World.block_lt_of_cell? _ _ x1)).trans x1
      obtain ⟨yn, hyn⟩ : ∃ yn, (rd_T33 l1 (i : Int)).f1 = yn := ⟨_, rfl⟩
      obtain ⟨kd, hkd⟩ : ∃ kd, (rd_T33 l1 (i : Int)).f0 = kd := ⟨_, rfl⟩
      rw [hyn] at y1 xl xc
      rw [hkd] at y0 HX0
      obtain ⟨ys, hys⟩ : ∃ ys, yn.take 6 = ys := ⟨_, rfl⟩
      have hly : ys.length ≤ yn.length ∧ ys.length ≤ 6 := by rw [← hys, List.length_take]; omega
      have hmy : (if (6 : Int) < (yn.length : Int) then 6 else (yn.length : Int)) = (ys.length : Int) := by
        rw [← hys, List.length_take]
        split <;> omega
      have hCy : Kd.C (Kd.int .i64) w An ys.length ys := by
        have := Kd.C_take xc (m := ys.length) hly.1
        rwa [show yn.take ys.length = ys by rw [← hys, List.length_take, List.take_eq_take_iff]; omega] at this
      have HCY := Aside0.mk hCy
      have HLY := Aside0.mk hly
      have q5 : 0 ≤ (ys.length : Int) := by omega
      have q6 : (ys.length : Int) ≤ (cn : Int) := by omega
      obtain ⟨d, hd⟩ : ∃ d, kd.tmod 6 = d := ⟨_, rfl⟩
      clear x0 x1 xl xc hyn hkd hys hCy hly
      go_upto_region 14 with (fail)
      go_quiet (fail)
      have n1_ := Aside0.mk (HD.out.of_below (pw_below_drewN (Below.refl _ _) nq))
      clear HD y0 y1
      have HD := n1_
      clear n1_
      generalize wr.drewN nq = wz at HD ⊢
      have y0 := (HD.out.bel.cell (World.block_lt_of_cell? _ _ HX0.out)).trans HX0.out
      by_cases h3 : d = 3
      · have e3 : (d == 3) = true := by rw [beq_iff_eq]; exact h3
        clear h3
        by_cases hXe : X = []
        · have hMe : M.length = 0 := by rw [AL.out.len, hXe]; rfl
          have HXE := Aside0.mk hXe
          have HME := Aside0.mk hMe
          clear hXe hMe
          go_upto_region 32 with (first
            | (go_at_call 11; (with_reducible refine (duo_pop_none HD.out HME.out).mono ?_); rintro e w4 ⟨rfl, rfl⟩)
            | (go_at_call 12; (with_reducible refine (duo_rpop_none (X := X) HD.out HXE.out).mono ?_); rintro e w5 ⟨rfl, hdr⟩; have n1_ := Aside0.mk (HD.out.of_below hdr.below); clear HD hdr; have HD := n1_; clear n1_))
          obtain ⟨M2, hM2⟩ : ∃ M2, M = M2 := ⟨_, rfl⟩
          obtain ⟨Q2, hQ2⟩ : ∃ Q2, Q = Q2 := ⟨_, rfl⟩
          obtain ⟨X2, hX2⟩ : ∃ X2, X = X2 := ⟨_, rfl⟩
          obtain ⟨came2, hc2⟩ : ∃ c2, came = c2 := ⟨_, rfl⟩
          have AL2 := AL
          have BN2 : Aside0 (0 ≤ came ∧ came ≤ 8 + 6 * ((i : Int) + 1) ∧ X.length ≤ 8 + 6 * (i + 1)) := ⟨by have := BN.out; omega⟩
          rw [hM2, hX2, hc2] at HD
          rw [hM2, hQ2, hX2, hc2] at AL2
          rw [hc2, hX2] at BN2
          clear hM2 hQ2 hX2 hc2
          by_cases hX0 : X2 = []
          · have hM0 : M2.length = 0 := by rw [AL2.out.len, hX0]; rfl
            have HX0 := Aside0.mk hX0
            have HM0 := Aside0.mk hM0
            have hln : (M2.length : Int) = (X2.length : Int) := by rw [AL2.out.len]
            clear hX0 hM0
            go_upto_region 34 with (first
              | (go_at_call 15; (with_reducible refine (duo_peek_none HD.out HM0.out).mono ?_); rintro e w7 ⟨rfl, rfl⟩)
              | (go_at_call 16; (with_reducible refine (duo_rpeek_none (X := X2) HD.out HX0.out).mono ?_); rintro e w8 ⟨rfl, hdr⟩; have n1_ := Aside0.mk (HD.out.of_below hdr.below); clear HD hdr; have HD := n1_; clear n1_))
            have hqr := HD.out.refc
            obtain ⟨Ar, cr, hqr⟩ := hqr
            go_quiet ((go_at_call 17; refine Calls.quiet_of_same (duo_len (HD.out.of_below (pw_below_drewN (Below.refl _ _) _)))))
            have n1_ := Aside0.mk (HD.out.of_below (pw_below_drewN (Below.refl _ _) nq))
            clear HD hqr
            have HD := n1_
            clear n1_
            go_wp2
            go_roundw
            case measure => simp [intOf]; omega
            case rel => exact ⟨i + 1, M2, Q2, X2, came2, by go_num, by omega, by omega, HD, AL2, ⟨by have := BN2.out; omega⟩⟩
          · obtain ⟨j, hj⟩ := exists_least X2 hX0
            have hpo := AL2.out.pop hj
            have HJ := Aside0.mk hj
            have HP1 := Aside0.mk hpo.1
            have HP2 := Aside0.mk hpo.2.1
            have HXL := Aside0.mk (show X2.length < 1099511627776 by have := BN2.out; omega)
            have hln : (M2.length : Int) = (X2.length : Int) := by rw [AL2.out.len]
            clear hj hpo hX0
            go_upto_region 34 with (first
              | (go_at_call 15; (with_reducible refine (duo_peek_some HD.out HP2.out HP1.out).mono ?_); rintro e w7 ⟨rfl, rfl⟩)
              | (go_at_call 16; (with_reducible refine (duo_rpeek_some HD.out HXL.out HJ.out rfl).mono ?_); rintro e w8 ⟨rfl, hdr⟩; have n1_ := Aside0.mk (HD.out.of_below hdr.below); clear HD hdr; have HD := n1_; clear n1_))
            have hqr := HD.out.refc
            obtain ⟨Ar, cr, hqr⟩ := hqr
            go_quiet ((go_at_call 17; refine Calls.quiet_of_same (duo_len (HD.out.of_below (pw_below_drewN (Below.refl _ _) _)))))
            have n1_ := Aside0.mk (HD.out.of_below (pw_below_drewN (Below.refl _ _) nq))
            clear HD hqr
            have HD := n1_
            clear n1_
            go_wp2
            go_roundw
            case measure => simp [intOf]; omega
            case rel => exact ⟨i + 1, M2, Q2, X2, came2, by go_num, by omega, by omega, HD, AL2, ⟨by have := BN2.out; omega⟩⟩
        · obtain ⟨j0, hj0⟩ := exists_least X hXe
          have hpo := AL.out.pop hj0
          have HJ0 := Aside0.mk hj0
          have HPO := Aside0.mk hpo
          have HXL0 := Aside0.mk (show X.length < 1099511627776 ∧ M.length < 1099511627776 by have := BN.out; have := AL.out.len; omega)
          have AL2 := Aside0.mk hpo.2.2.1
          have BN2 : Aside0 (0 ≤ came ∧ came ≤ 8 + 6 * ((i : Int) + 1) ∧ (X.take j0 ++ X.drop (j0 + 1)).length ≤ 8 + 6 * (i + 1)) := ⟨by have h1 := BN.out; have h2 := AL.out.len; have h3 := hpo.2.2.1.len; have h4 := hpo.2.2.2; omega⟩
          clear hj0 hpo hXe
          go_upto_region 32 with (first
            | (go_at_call 11; (with_reducible refine (duo_pop_some HD.out HPO.out.2.1 HXL0.out.2 HPO.out.1).mono ?_); rintro e w4 ⟨rfl, hd4⟩; clear HD; have HD := Aside0.mk hd4; clear hd4)
            | (go_at_call 12; (with_reducible refine (duo_rpop_some HD.out HXL0.out.1 HJ0.out rfl).mono ?_); rintro e w5 ⟨rfl, hd5, _⟩; clear HD; have HD := Aside0.mk hd5; clear hd5))
          obtain ⟨M2, hM2⟩ : ∃ M2, popF ah92 M = M2 := ⟨_, rfl⟩
          obtain ⟨Q2, hQ2⟩ : ∃ Q2, Q.eraseIdx j0 = Q2 := ⟨_, rfl⟩
          obtain ⟨X2, hX2⟩ : ∃ X2, X.take j0 ++ X.drop (j0 + 1) = X2 := ⟨_, rfl⟩
          obtain ⟨came2, hc2⟩ : ∃ c2, came = c2 := ⟨_, rfl⟩
          rw [hM2, hX2, hc2] at HD
          rw [hM2, hQ2, hX2, hc2] at AL2
          rw [hc2, hX2] at BN2
          clear hM2 hQ2 hX2 hc2 HPO
          by_cases hX0 : X2 = []
          · have hM0 : M2.length = 0 := by rw [AL2.out.len, hX0]; rfl
            have HX0 := Aside0.mk hX0
            have HM0 := Aside0.mk hM0
            have hln : (M2.length : Int) = (X2.length : Int) := by rw [AL2.out.len]
            clear hX0 hM0
            go_upto_region 34 with (first
              | (go_at_call 15; (with_reducible refine (duo_peek_none HD.out HM0.out).mono ?_); rintro e w7 ⟨rfl, rfl⟩)
              | (go_at_call 16; (with_reducible refine (duo_rpeek_none (X := X2) HD.out HX0.out).mono ?_); rintro e w8 ⟨rfl, hdr⟩; have n1_ := Aside0.mk (HD.out.of_below hdr.below); clear HD hdr; have HD := n1_; clear n1_))
            have hqr := HD.out.refc
            obtain ⟨Ar, cr, hqr⟩ := hqr
            go_quiet ((go_at_call 17; refine Calls.quiet_of_same (duo_len (HD.out.of_below (pw_below_drewN (Below.refl _ _) _)))))
            have n1_ := Aside0.mk (HD.out.of_below (pw_below_drewN (Below.refl _ _) nq))
            clear HD hqr
            have HD := n1_
            clear n1_
            go_wp2
            go_roundw
            case measure => simp [intOf]; omega
            case rel => exact ⟨i + 1, M2, Q2, X2, came2, by go_num, by omega, by omega, HD, AL2, ⟨by have := BN2.out; omega⟩⟩
          · obtain ⟨j, hj⟩ := exists_least X2 hX0
            have hpo := AL2.out.pop hj
            have HJ := Aside0.mk hj
            have HP1 := Aside0.mk hpo.1
            have HP2 := Aside0.mk hpo.2.1
            have HXL := Aside0.mk (show X2.length < 1099511627776 by have := BN2.out; omega)
            have hln : (M2.length : Int) = (X2.length : Int) := by rw [AL2.out.len]
            clear hj hpo hX0
            go_upto_region 34 with (first
              | (go_at_call 15; (with_reducible refine (duo_peek_some HD.out HP2.out HP1.out).mono ?_); rintro e w7 ⟨rfl, rfl⟩)
              | (go_at_call 16; (with_reducible refine (duo_rpeek_some HD.out HXL.out HJ.out rfl).mono ?_); rintro e w8 ⟨rfl, hdr⟩; have n1_ := Aside0.mk (HD.out.of_below hdr.below); clear HD hdr; have HD := n1_; clear n1_))
            have hqr := HD.out.refc
            obtain ⟨Ar, cr, hqr⟩ := hqr
            go_quiet ((go_at_call 17; refine Calls.quiet_of_same (duo_len (HD.out.of_below (pw_below_drewN (Below.refl _ _) _)))))
            have n1_ := Aside0.mk (HD.out.of_below (pw_below_drewN (Below.refl _ _) nq))
            clear HD hqr
            have HD := n1_
            clear n1_
            go_wp2
            go_roundw
            case measure => simp [intOf]; omega
            case rel => exact ⟨i + 1, M2, Q2, X2, came2, by go_num, by omega, by omega, HD, AL2, ⟨by have := BN2.out; omega⟩⟩
      · by_cases h4 : d = 4
        · have e3 : (d == 3) = false := beq_eq_false_iff_ne.mpr h3
          have e4 : (d == 4) = true := by rw [beq_iff_eq]; exact h4
          clear h3 h4
          by_cases hXe : X = []
          · have hMe : M.length = 0 := by rw [AL.out.len, hXe]; rfl
            have HXE := Aside0.mk hXe
            have HME := Aside0.mk hMe
            clear hXe hMe
            go_upto_region 32 with (first
              | (go_at_call 11; (with_reducible refine (duo_pop_none HD.out HME.out).mono ?_); rintro e w4 ⟨rfl, rfl⟩)
              | (go_at_call 12; (with_reducible refine (duo_rpop_none (X := X) HD.out HXE.out).mono ?_); rintro e w5 ⟨rfl, hdr⟩; have n1_ := Aside0.mk (HD.out.of_below hdr.below); clear HD hdr; have HD := n1_; clear n1_))
            obtain ⟨M2, hM2⟩ : ∃ M2, M = M2 := ⟨_, rfl⟩
            obtain ⟨Q2, hQ2⟩ : ∃ Q2, Q = Q2 := ⟨_, rfl⟩
            obtain ⟨X2, hX2⟩ : ∃ X2, X = X2 := ⟨_, rfl⟩
            obtain ⟨came2, hc2⟩ : ∃ c2, came = c2 := ⟨_, rfl⟩
            have AL2 := AL
            have BN2 : Aside0 (0 ≤ came ∧ came ≤ 8 + 6 * ((i : Int) + 1) ∧ X.length ≤ 8 + 6 * (i + 1)) := ⟨by have := BN.out; omega⟩
            rw [hM2, hX2, hc2] at HD
            rw [hM2, hQ2, hX2, hc2] at AL2
            rw [hc2, hX2] at BN2
            clear hM2 hQ2 hX2 hc2
            by_cases hX0 : X2 = []
            · have hM0 : M2.length = 0 := by rw [AL2.out.len, hX0]; rfl
              have HX0 := Aside0.mk hX0
              have HM0 := Aside0.mk hM0
              have hln : (M2.length : Int) = (X2.length : Int) := by rw [AL2.out.len]
              clear hX0 hM0
              go_upto_region 34 with (first
                | (go_at_call 15; (with_reducible refine (duo_peek_none HD.out HM0.out).mono ?_); rintro e w7 ⟨rfl, rfl⟩)
                | (go_at_call 16; (with_reducible refine (duo_rpeek_none (X := X2) HD.out HX0.out).mono ?_); rintro e w8 ⟨rfl, hdr⟩; have n1_ := Aside0.mk (HD.out.of_below hdr.below); clear HD hdr; have HD := n1_; clear n1_))
              have hqr := HD.out.refc
              obtain ⟨Ar, cr, hqr⟩ := hqr
              go_quiet ((go_at_call 17; refine Calls.quiet_of_same (duo_len (HD.out.of_below (pw_below_drewN (Below.refl _ _) _)))))
              have n1_ := Aside0.mk (HD.out.of_below (pw_below_drewN (Below.refl _ _) nq))
              clear HD hqr
              have HD := n1_
              clear n1_
              go_wp2
              go_roundw
              case measure => simp [intOf]; omega
              case rel => exact ⟨i + 1, M2, Q2, X2, came2, by go_num, by omega, by omega, HD, AL2, ⟨by have := BN2.out; omega⟩⟩
            · obtain ⟨j, hj⟩ := exists_least X2 hX0
              have hpo := AL2.out.pop hj
              have HJ := Aside0.mk hj
              have HP1 := Aside0.mk hpo.1
              have HP2 := Aside0.mk hpo.2.1
              have HXL := Aside0.mk (show X2.length < 1099511627776 by have := BN2.out; omega)
              have hln : (M2.length : Int) = (X2.length : Int) := by rw [AL2.out.len]
              clear hj hpo hX0
              go_upto_region 34 with (first
                | (go_at_call 15; (with_reducible refine (duo_peek_some HD.out HP2.out HP1.out).mono ?_); rintro e w7 ⟨rfl, rfl⟩)
                | (go_at_call 16; (with_reducible refine (duo_rpeek_some HD.out HXL.out HJ.out rfl).mono ?_); rintro e w8 ⟨rfl, hdr⟩; have n1_ := Aside0.mk (HD.out.of_below hdr.below); clear HD hdr; have HD := n1_; clear n1_))
              have hqr := HD.out.refc
              obtain ⟨Ar, cr, hqr⟩ := hqr
              go_quiet ((go_at_call 17; refine Calls.quiet_of_same (duo_len (HD.out.of_below (pw_below_drewN (Below.refl _ _) _)))))
              have n1_ := Aside0.mk (HD.out.of_below (pw_below_drewN (Below.refl _ _) nq))
              clear HD hqr
              have HD := n1_
              clear n1_
              go_wp2
              go_roundw
              case measure => simp [intOf]; omega
              case rel => exact ⟨i + 1, M2, Q2, X2, came2, by go_num, by omega, by omega, HD, AL2, ⟨by have := BN2.out; omega⟩⟩
          · obtain ⟨j0, hj0⟩ := exists_least X hXe
            have hpo := AL.out.pop hj0
            have HJ0 := Aside0.mk hj0
            have HPO := Aside0.mk hpo
            have HXL0 := Aside0.mk (show X.length < 1099511627776 ∧ M.length < 1099511627776 by have := BN.out; have := AL.out.len; omega)
            have AL2 := Aside0.mk hpo.2.2.1
            have BN2 : Aside0 (0 ≤ came ∧ came ≤ 8 + 6 * ((i : Int) + 1) ∧ (X.take j0 ++ X.drop (j0 + 1)).length ≤ 8 + 6 * (i + 1)) := ⟨by have h1 := BN.out; have h2 := AL.out.len; have h3 := hpo.2.2.1.len; have h4 := hpo.2.2.2; omega⟩
            clear hj0 hpo hXe
            go_upto_region 32 with (first
              | (go_at_call 11; (with_reducible refine (duo_pop_some HD.out HPO.out.2.1 HXL0.out.2 HPO.out.1).mono ?_); rintro e w4 ⟨rfl, hd4⟩; clear HD; have HD := Aside0.mk hd4; clear hd4)
              | (go_at_call 12; (with_reducible refine (duo_rpop_some HD.out HXL0.out.1 HJ0.out rfl).mono ?_); rintro e w5 ⟨rfl, hd5, _⟩; clear HD; have HD := Aside0.mk hd5; clear hd5))
            obtain ⟨M2, hM2⟩ : ∃ M2, popF ah92 M = M2 := ⟨_, rfl⟩
            obtain ⟨Q2, hQ2⟩ : ∃ Q2, Q.eraseIdx j0 = Q2 := ⟨_, rfl⟩
            obtain ⟨X2, hX2⟩ : ∃ X2, X.take j0 ++ X.drop (j0 + 1) = X2 := ⟨_, rfl⟩
            obtain ⟨came2, hc2⟩ : ∃ c2, came = c2 := ⟨_, rfl⟩
            rw [hM2, hX2, hc2] at HD
            rw [hM2, hQ2, hX2, hc2] at AL2
            rw [hc2, hX2] at BN2
            clear hM2 hQ2 hX2 hc2 HPO
            by_cases hX0 : X2 = []
            · have hM0 : M2.length = 0 := by rw [AL2.out.len, hX0]; rfl
              have HX0 := Aside0.mk hX0
              have HM0 := Aside0.mk hM0
              have hln : (M2.length : Int) = (X2.length : Int) := by rw [AL2.out.len]
              clear hX0 hM0
              go_upto_region 34 with (first
                | (go_at_call 15; (with_reducible refine (duo_peek_none HD.out HM0.out).mono ?_); rintro e w7 ⟨rfl, rfl⟩)
                | (go_at_call 16; (with_reducible refine (duo_rpeek_none (X := X2) HD.out HX0.out).mono ?_); rintro e w8 ⟨rfl, hdr⟩; have n1_ := Aside0.mk (HD.out.of_below hdr.below); clear HD hdr; have HD := n1_; clear n1_))
              have hqr := HD.out.refc
              obtain ⟨Ar, cr, hqr⟩ := hqr
              go_quiet ((go_at_call 17; refine Calls.quiet_of_same (duo_len (HD.out.of_below (pw_below_drewN (Below.refl _ _) _)))))
              have n1_ := Aside0.mk (HD.out.of_below (pw_below_drewN (Below.refl _ _) nq))
              clear HD hqr
              have HD := n1_
              clear n1_
              go_wp2
              go_roundw
              case measure => simp [intOf]; omega
              case rel => exact ⟨i + 1, M2, Q2, X2, came2, by go_num, by omega, by omega, HD, AL2, ⟨by have := BN2.out; omega⟩⟩
            · obtain ⟨j, hj⟩ := exists_least X2 hX0
              have hpo := AL2.out.pop hj
              have HJ := Aside0.mk hj
              have HP1 := Aside0.mk hpo.1
              have HP2 := Aside0.mk hpo.2.1
              have HXL := Aside0.mk (show X2.length < 1099511627776 by have := BN2.out; omega)
              have hln : (M2.length : Int) = (X2.length : Int) := by rw [AL2.out.len]
              clear hj hpo hX0
              go_upto_region 34 with (first
                | (go_at_call 15; (with_reducible refine (duo_peek_some HD.out HP2.out HP1.out).mono ?_); rintro e w7 ⟨rfl, rfl⟩)
                | (go_at_call 16; (with_reducible refine (duo_rpeek_some HD.out HXL.out HJ.out rfl).mono ?_); rintro e w8 ⟨rfl, hdr⟩; have n1_ := Aside0.mk (HD.out.of_below hdr.below); clear HD hdr; have HD := n1_; clear n1_))
              have hqr := HD.out.refc
              obtain ⟨Ar, cr, hqr⟩ := hqr
              go_quiet ((go_at_call 17; refine Calls.quiet_of_same (duo_len (HD.out.of_below (pw_below_drewN (Below.refl _ _) _)))))
              have n1_ := Aside0.mk (HD.out.of_below (pw_below_drewN (Below.refl _ _) nq))
              clear HD hqr
              have HD := n1_
              clear n1_
              go_wp2
              go_roundw
              case measure => simp [intOf]; omega
              case rel => exact ⟨i + 1, M2, Q2, X2, came2, by go_num, by omega, by omega, HD, AL2, ⟨by have := BN2.out; omega⟩⟩
        · have e3 : (d == 3) = false := beq_eq_false_iff_ne.mpr h3
          have e4 : (d == 4) = false := beq_eq_false_iff_ne.mpr h4
          clear h3 h4
          by_cases h5 : d = 5
          · have e5 : (d == 5) = true := by rw [beq_iff_eq]; exact h5
            clear h5
            obtain ⟨a, ha⟩ : ∃ a, (drainF ah92 M.length M).map (·.f0) = a := ⟨_, rfl⟩
            have hla : a.length = X.length := by rw [← ha, List.length_map, (drainF_spec hord92 M.length M AL.out.hp rfl).1, AL.out.len]
            have HLA := Aside0.mk hla
            have HA := Aside0.mk ha
            have HML := Aside0.mk (show M.length < 1099511627776 by have := BN.out; have := AL.out.len; omega)
            clear hla ha
            go_upto_region 25 with (go_at_call 13; (with_reducible refine (duo_drain HD.out AL.out.hp HML.out HA.out).mono ?_); rintro e w4 ⟨Aa, ca, rfl, hRa, hd4⟩; clear HD; have HD := Aside0.mk hd4; have HR := Aside0.mk hRa; clear hd4 hRa; have HRB := Aside0.mk (Kd.R_reads' HR.out).2.2)
            go_wp2
            go_loopw [9, 16] (fun v9 v16 wq => ∃ (k : Nat) (Mk Qk : List S92) (Xk : List Int) (bk : Nat), v16 = .int .i64 k ∧ v9 = .bool true ∧ k ≤ a.length ∧ Aside0 (Duo w wq gh gx [] Xk came) ∧ Aside0 (Alike Mk Qk Xk came) ∧ Aside0 ((drainF ah92 Mk.length Mk).map (·.f0) = a.drop k) ∧ Aside0 (Xk.length ≤ 8 + 6 * i) ∧ Aside0 (Kd.R (Kd.int .i64) 3 wq bk (fun k => k ≠ gx) (.slice Aa a.length ca) a)) (fun _ v16 _ => a.length - (intOf v16).toNat)
            case atStart => exact ⟨0, M, Q, X, _, rfl, rfl, by omega, HD, AL, ⟨HA.out⟩, ⟨by have := BN.out; omega⟩, HR⟩
            case round =>
              clear HD HR HA HML HRB
              obtain ⟨k, Mk, Qk, Xk, bk, rfl, rfl, hka, HD, ALk, HDR, HXk, HR⟩ := hrel
              by_cases hk : k < a.length
              · have hkl : Mk.length = a.length - k := by
                  have := congrArg List.length HDR.out
                  rw [List.length_map, (drainF_spec hord92 Mk.length Mk ALk.out.hp rfl).1, List.length_drop] at this
                  exact this
                have hXne : Xk ≠ [] := fun e => by have h1 := ALk.out.len; rw [e, List.length_nil] at h1; omega
                obtain ⟨j0, hj0⟩ := exists_least Xk hXne
                have hpo := ALk.out.pop hj0
                have HJ0 := Aside0.mk hj0
                have hdk : a.drop k = (hgt Mk 0).f0 :: (drainF ah92 (popF ah92 Mk).length (popF ah92 Mk)).map (·.f0) := by
                  rw [← HDR.out, ← hpo.2.2.2]
                  rfl
                have hgk : a.getD k 0 = (hgt Mk 0).f0 ∧ (drainF ah92 (popF ah92 Mk).length (popF ah92 Mk)).map (·.f0) = a.drop (k + 1) := by
                  have h1 := List.drop_eq_getElem_cons hk
                  rw [hdk] at h1
                  injection h1 with h2 h3
                  exact ⟨by rw [h2, List.getD_eq_getElem?_getD, List.getElem?_eq_getElem hk]; rfl, h3⟩
                have HPO := Aside0.mk (And.intro hpo hgk)
                obtain ⟨x, hx⟩ : ∃ x, Xk.getD j0 0 = x := ⟨_, rfl⟩
                have HX := Aside0.mk hx
                have c1 : decide ((k : Int) < (a.length : Int)) = true := decide_eq_true (by omega)
                have c2 : (k : Int) < (a.length : Int) := by omega
                have c3 : 0 ≤ (k : Int) := by omega
                have hkb : k < 1000 := by
                  have h1 := HLA.out
                  have h2 := BN.out.2.2
                  omega
                have hw4 : IntKind.i64.wrap ((k : Int) + 1) = (k : Int) + 1 := by rw [IntKind.wrap_i64]; omega
                have HXL := Aside0.mk (show Xk.length < 1099511627776 by have := HXk.out; have := BN.out; omega)
                clear hj0 hpo hdk hgk hXne hx hkl
                go_upto_region 29 with (go_at_call 12; (with_reducible refine (duo_rpop_some HD.out HXL.out HJ0.out HX.out).mono ?_); rintro e w6 ⟨rfl, hd6, hk6⟩; clear HD; have HD := Aside0.mk hd6; have HK6 := Aside0.mk hk6; clear hd6 hk6)
                have n1_ := Aside0.mk (rowR_keep (row2 := none) rfl HR.out HK6.out (fun b hb => ⟨HR.out.1 b hb, by simp⟩))
                clear HR HK6
                have HR := n1_
                clear n1_
                obtain ⟨ad3, e3, hx3⟩ := Kd.at_int (Kd.R_reads' HR.out).2.2 (k : Int) c3 c2
                subst e3
                have hx4 : w6.cell? (ad3.add k) = some (.int .i64 x) := by
                  rw [Int.toNat_natCast] at hx3
                  exact hx3.trans (by rw [show rd a (k : Int) = a.getD k 0 from rfl, HPO.out.2.1, HPO.out.1.1, HX.out])
                clear hx3
                go_wp2
                go_roundw
                case measure => simp [intOf]; omega
                case rel => exact ⟨k + 1, _, _, _, bk, by go_num, by first | rfl | simp, by omega, HD, ⟨HPO.out.1.2.2.1⟩, ⟨HPO.out.2.2⟩, ⟨by have h1 := HXk.out; have h2 := ALk.out.len; have h3 := HPO.out.1.2.2.1.len; have h4 := HPO.out.1.2.2.2; omega⟩, HR⟩
              · have hke : k = a.length := by omega
                subst hke
                have hm0 : Mk = [] := by
                  have := congrArg List.length HDR.out
                  rw [List.length_map, (drainF_spec hord92 Mk.length Mk ALk.out.hp rfl).1, List.length_drop, Nat.sub_self] at this
                  exact List.eq_nil_of_length_eq_zero this
                have hX0 : Xk = [] := List.eq_nil_of_length_eq_zero (by rw [← ALk.out.len, hm0]; rfl)
                have HX0k := Aside0.mk hX0
                have c1 : decide ((a.length : Int) < (a.length : Int)) = false := decide_eq_false (by omega)
                clear hm0 hX0 hk
                go_upto_region 32 with (go_at_call 12; (with_reducible refine (duo_rpop_none (X := Xk) HD.out HX0k.out).mono ?_); rintro e w5 ⟨rfl, hdr⟩; have n1_ := Aside0.mk (HD.out.of_below hdr.below); clear HD hdr; have HD := n1_; clear n1_)
                obtain ⟨M2, hM2⟩ : ∃ M2, ([] : List S92) = M2 := ⟨_, rfl⟩
                obtain ⟨Q2, hQ2⟩ : ∃ Q2, ([] : List S92) = Q2 := ⟨_, rfl⟩
                obtain ⟨X2, hX2⟩ : ∃ X2, ([] : List Int) = X2 := ⟨_, rfl⟩
                obtain ⟨came2, hc2⟩ : ∃ c2, came = c2 := ⟨_, rfl⟩
                have AL2 := Aside0.mk (Alike.nil came)
                have BN2 : Aside0 (0 ≤ came ∧ came ≤ 8 + 6 * ((i : Int) + 1) ∧ ([] : List Int).length ≤ 8 + 6 * (i + 1)) := ⟨by have := BN.out; simp only [List.length_nil]; omega⟩
                have HD2 := HD
                rw [HX0k.out, hM2, hX2, hc2] at HD2
                clear HD
                have HD := HD2
                clear HD2
                have AL3 : Aside0 (Alike M2 Q2 X2 came2) := ⟨by rw [← hM2, ← hQ2, ← hX2, ← hc2]; exact AL2.out⟩
                clear AL2
                have AL2 := AL3
                clear AL3
                rw [hc2, hX2] at BN2
                clear hM2 hQ2 hX2 hc2
                by_cases hX0 : X2 = []
                · have hM0 : M2.length = 0 := by rw [AL2.out.len, hX0]; rfl
                  have HX0 := Aside0.mk hX0
                  have HM0 := Aside0.mk hM0
                  have hln : (M2.length : Int) = (X2.length : Int) := by rw [AL2.out.len]
                  clear hX0 hM0
                  go_upto_region 34 with (first
                    | (go_at_call 15; (with_reducible refine (duo_peek_none HD.out HM0.out).mono ?_); rintro e w7 ⟨rfl, rfl⟩)
                    | (go_at_call 16; (with_reducible refine (duo_rpeek_none (X := X2) HD.out HX0.out).mono ?_); rintro e w8 ⟨rfl, hdr⟩; have n1_ := Aside0.mk (HD.out.of_below hdr.below); clear HD hdr; have HD := n1_; clear n1_))
                  have hqr := HD.out.refc
                  obtain ⟨Ar, cr, hqr⟩ := hqr
                  go_quiet ((go_at_call 17; refine Calls.quiet_of_same (duo_len (HD.out.of_below (pw_below_drewN (Below.refl _ _) _)))))
                  have n1_ := Aside0.mk (HD.out.of_below (pw_below_drewN (Below.refl _ _) nq))
                  clear HD hqr
                  have HD := n1_
                  clear n1_
                  go_wp2
                  go_roundw
                  case measure => simp [intOf]; omega
                  case rel => exact ⟨i + 1, M2, Q2, X2, came2, by go_num, by omega, by omega, HD, AL2, ⟨by have := BN2.out; omega⟩⟩
                · obtain ⟨j, hj⟩ := exists_least X2 hX0
                  have hpo := AL2.out.pop hj
                  have HJ := Aside0.mk hj
                  have HP1 := Aside0.mk hpo.1
                  have HP2 := Aside0.mk hpo.2.1
                  have HXL := Aside0.mk (show X2.length < 1099511627776 by have := BN2.out; omega)
                  have hln : (M2.length : Int) = (X2.length : Int) := by rw [AL2.out.len]
                  clear hj hpo hX0
                  go_upto_region 34 with (first
                    | (go_at_call 15; (with_reducible refine (duo_peek_some HD.out HP2.out HP1.out).mono ?_); rintro e w7 ⟨rfl, rfl⟩)
                    | (go_at_call 16; (with_reducible refine (duo_rpeek_some HD.out HXL.out HJ.out rfl).mono ?_); rintro e w8 ⟨rfl, hdr⟩; have n1_ := Aside0.mk (HD.out.of_below hdr.below); clear HD hdr; have HD := n1_; clear n1_))
                  have hqr := HD.out.refc
                  obtain ⟨Ar, cr, hqr⟩ := hqr
                  go_quiet ((go_at_call 17; refine Calls.quiet_of_same (duo_len (HD.out.of_below (pw_below_drewN (Below.refl _ _) _)))))
                  have n1_ := Aside0.mk (HD.out.of_below (pw_below_drewN (Below.refl _ _) nq))
                  clear HD hqr
                  have HD := n1_
                  clear n1_
                  go_wp2
                  go_roundw
                  case measure => simp [intOf]; omega
                  case rel => exact ⟨i + 1, M2, Q2, X2, came2, by go_num, by omega, by omega, HD, AL2, ⟨by have := BN2.out; omega⟩⟩
          · have e5 : (d == 5) = false := beq_eq_false_iff_ne.mpr h5
            clear h5
            have AL2 := Aside0.mk (AL.out.push ys)
            have BN2 : Aside0 (0 ≤ came + (ys.length : Int) ∧ came + (ys.length : Int) ≤ 8 + 6 * ((i : Int) + 1) ∧ (X ++ ys).length ≤ 8 + 6 * (i + 1)) := ⟨by have h1 := BN.out; have h2 := HLY.out; rw [List.length_append]; omega⟩
            have HPB := Aside0.mk (show 0 ≤ came ∧ came + (ys.length : Int) < 1099511627776 ∧ M.length + ys.length < 1099511627776 ∧ X.length + ys.length < 1099511627776 by have h1 := BN.out; have h2 := HLY.out; have h3 := AL.out.len; omega)
            go_upto_region 32 with (first
              | (go_at_call 14; (with_reducible refine (duo_push HD.out _ _ ys HCY.out HPB.out.1 HPB.out.2.1 HPB.out.2.2.1 AL.out.hp).mono ?_); rintro e w4 ⟨rfl, hd4⟩; clear HD; have HD := Aside0.mk hd4; clear hd4)
              | (go_at_call 10; (with_reducible refine (duo_rpush HD.out _ _ ys HCY.out HPB.out.2.2.2).mono ?_); rintro e w5 ⟨rfl, hd5⟩; clear HD; have HD := Aside0.mk hd5; clear hd5))
            obtain ⟨M2, hM2⟩ : ∃ M2, pushL ah92 mk92 M came ys = M2 := ⟨_, rfl⟩
            obtain ⟨Q2, hQ2⟩ : ∃ Q2, Q ++ stamp mk92 came ys = Q2 := ⟨_, rfl⟩
            obtain ⟨X2, hX2⟩ : ∃ X2, X ++ ys = X2 := ⟨_, rfl⟩
            obtain ⟨came2, hc2⟩ : ∃ c2, came + (ys.length : Int) = c2 := ⟨_, rfl⟩
            rw [hM2, hX2, hc2] at HD
            rw [hM2, hQ2, hX2, hc2] at AL2
            rw [hc2, hX2] at BN2
            clear hM2 hQ2 hX2 hc2 HPB
            by_cases hX0 : X2 = []
            · have hM0 : M2.length = 0 := by rw [AL2.out.len, hX0]; rfl
              have HX0 := Aside0.mk hX0
              have HM0 := Aside0.mk hM0
              have hln : (M2.length : Int) = (X2.length : Int) := by rw [AL2.out.len]
              clear hX0 hM0
              go_upto_region 34 with (first
                | (go_at_call 15; (with_reducible refine (duo_peek_none HD.out HM0.out).mono ?_); rintro e w7 ⟨rfl, rfl⟩)
                | (go_at_call 16; (with_reducible refine (duo_rpeek_none (X := X2) HD.out HX0.out).mono ?_); rintro e w8 ⟨rfl, hdr⟩; have n1_ := Aside0.mk (HD.out.of_below hdr.below); clear HD hdr; have HD := n1_; clear n1_))
              have hqr := HD.out.refc
              obtain ⟨Ar, cr, hqr⟩ := hqr
              go_quiet ((go_at_call 17; refine Calls.quiet_of_same (duo_len (HD.out.of_below (pw_below_drewN (Below.refl _ _) _)))))
              have n1_ := Aside0.mk (HD.out.of_below (pw_below_drewN (Below.refl _ _) nq))
              clear HD hqr
              have HD := n1_
              clear n1_
              go_wp2
              go_roundw
              case measure => simp [intOf]; omega
              case rel => exact ⟨i + 1, M2, Q2, X2, came2, by go_num, by omega, by omega, HD, AL2, ⟨by have := BN2.out; omega⟩⟩
            · obtain ⟨j, hj⟩ := exists_least X2 hX0
              have hpo := AL2.out.pop hj
              have HJ := Aside0.mk hj
              have HP1 := Aside0.mk hpo.1
              have HP2 := Aside0.mk hpo.2.1
              have HXL := Aside0.mk (show X2.length < 1099511627776 by have := BN2.out; omega)
              have hln : (M2.length : Int) = (X2.length : Int) := by rw [AL2.out.len]
              clear hj hpo hX0
              go_upto_region 34 with (first
                | (go_at_call 15; (with_reducible refine (duo_peek_some HD.out HP2.out HP1.out).mono ?_); rintro e w7 ⟨rfl, rfl⟩)
                | (go_at_call 16; (with_reducible refine (duo_rpeek_some HD.out HXL.out HJ.out rfl).mono ?_); rintro e w8 ⟨rfl, hdr⟩; have n1_ := Aside0.mk (HD.out.of_below hdr.below); clear HD hdr; have HD := n1_; clear n1_))
              have hqr := HD.out.refc
              obtain ⟨Ar, cr, hqr⟩ := hqr
              go_quiet ((go_at_call 17; refine Calls.quiet_of_same (duo_len (HD.out.of_below (pw_below_drewN (Below.refl _ _) _)))))
              have n1_ := Aside0.mk (HD.out.of_below (pw_below_drewN (Below.refl _ _) nq))
              clear HD hqr
              have HD := n1_
              clear n1_
              go_wp2
              go_roundw
              case measure => simp [intOf]; omega
              case rel => exact ⟨i + 1, M2, Q2, X2, came2, by go_num, by omega, by omega, HD, AL2, ⟨by have := BN2.out; omega⟩⟩
    · have HE := Aside0.mk hlt
      by_cases hl1 : i < l1.length
      · have hi : i = 30 := by omega
        have b1 : decide ((i : Int) < (l1.length : Int)) = true := decide_eq_true (by omega)
        have b2 : (i : Int) < (l1.length : Int) := by omega
        have b4 : decide ((i : Int) < 30) = false := decide_eq_false (by omega)
        clear hlt hl1 hi
        go_wp2
        go_ret
        exact ⟨rfl, HD.out.bel⟩
      · have hie : i = l1.length := by omega
        subst hie
        have b1 : decide ((l1.length : Int) < (l1.length : Int)) = false := decide_eq_false (by omega)
        clear hlt hl1
        go_wp2
        go_ret
        exact ⟨rfl, HD.out.bel⟩
end Go.Proofs.Ytbmmlkifhhpjcaa.X
