/- HeapTurns: popped and pushed again, the first one comes back, behind those alike. -/
import Derived.Test.YtbmmlkifhhpjcaaE
import Derived.Test.YtbmmlkifhhpjcaaX26
import Derived.Test.YtbmmlkifhhpjcaaR
namespace Go.Proofs.Ytbmmlkifhhpjcaa.X
open Go.RowKit Go.Proofs.YtbmmlkifhhpjcaaW.PrintWords Go.Proofs.YtbmmlkifhhpjcaaW.PrintLast Go.Proofs.YtbmmlkifhhpjcaaW.PrintMore
attribute [local go_sem] max2_int min2_int max_two min_two max_three min_three max_four min_four
set_option linter.unusedVariables false
set_option linter.unusedSimpArgs false

open Go.Proofs.Ytbmmlkifhhpjcaa
def archivistlaw15_HeapTurns.f (a0 : List Int) (a1 : Int) : Option Bool := some true
def kU (x : Int) : Int := x.tdiv 64 % 256
theorem stampU_mem : ∀ (xs : List Int) (c : Int) (y : S99), y ∈ stamp mk99 c xs → y.f0 ∈ xs
  | [], _, y, h => by simp [stamp] at h
  | x :: xs, c, y, h => by
    rcases List.mem_cons.1 h with rfl | h
    · exact List.mem_cons_self
    · exact List.mem_cons_of_mem _ (stampU_mem xs (c + 1) y h)
theorem stampU_filter (m : Int) : ∀ (xs : List Int) (c : Int), ((stamp mk99 c xs).filter (fun y => kU y.f0 == m)).map (·.f0) = xs.filter (fun x => kU x == m)
  | [], _ => rfl
  | x :: xs, c => by
    have ih := stampU_filter m xs (c + 1)
    show (((mk99 x c) :: stamp mk99 (c + 1) xs).filter (fun y => kU y.f0 == m)).map (·.f0) = _
    by_cases hx : (kU x == m) = true
    · rw [List.filter_cons_of_pos (p := fun y : S99 => kU y.f0 == m) (show (kU (mk99 x c).f0 == m) = true from hx), List.filter_cons_of_pos (p := fun x => kU x == m) hx, List.map_cons, ih]
      rfl
    · rw [List.filter_cons_of_neg (p := fun y : S99 => kU y.f0 == m) (show ¬ (kU (mk99 x c).f0 == m) = true from hx), List.filter_cons_of_neg (p := fun x => kU x == m) hx, ih]
theorem newU_calls (W : World) : Calls Try.prog 24 #[.func (.func 25) #[] #[], .slice none 0 0] W fun e w' => e = .returned (.pointer (some ⟨W.heap.size, 0, none⟩)) ∧ ∃ row', HS99 w' W.heap.size W.heap.size row' [] 0 ∧ Below W.heap.size W w' :=
  new99_calls W none 0 [] (Kd.C_nil _ _) (by decide)
set_option maxHeartbeats 4000000 in
set_option maxRecDepth 1000000 in
theorem archivistlaw15_HeapTurns.calls (A0 : Option Addr) (c0 : Nat) (l0 : List Int) (a1 : Int) (r : Bool) (w : World) (hr0 : Kd.C (Kd.int .u8) w A0 l0.length l0) (hc0 : l0.length ≤ c0) (h : archivistlaw15_HeapTurns.f l0 a1 = some r) :
    Calls Try.prog 5 #[.slice A0 l0.length c0, .int .u8 a1] w fun e w' => e = .returned (.bool r) ∧ Below w.heap.size w w' := by
  obtain rfl : true = r := Option.some.inj h
  obtain ⟨xs, hxs⟩ : ∃ xs, l0.take 20 = xs := ⟨_, rfl⟩
  have hlx : xs.length ≤ l0.length ∧ xs.length ≤ 20 := by rw [← hxs, List.length_take]; omega
  have hmn : (if (20 : Int) < (l0.length : Int) then 20 else (l0.length : Int)) = (xs.length : Int) := by
    rw [← hxs, List.length_take]
    split <;> omega
  have hC : Kd.C (Kd.int .u8) w A0 xs.length xs := by
    have := Kd.C_take hr0 (m := xs.length) hlx.1
    rwa [show l0.take xs.length = xs by rw [← hxs, List.length_take, List.take_eq_take_iff]; omega] at this
  have HC := Aside0.mk hC
  have HB := Aside0.mk (Below.refl w.heap.size w)
  have HN := Aside0.mk hlx
  have q1 : 0 ≤ (xs.length : Int) := by omega
  have q2 : (xs.length : Int) ≤ (c0 : Int) := by omega
  clear h hr0 hC hxs
  go_enter Try.func5, Try.ntmps5
  go_upto_region 8 with (first
    | (go_at_call 7; (with_reducible refine (examples_calls _).mono ?_); rintro e w1 ⟨rfl, hb⟩; have n1_ := Aside0.mk (below_step HB.out hb); clear HB hb; have HB := n1_; clear n1_)
    | (go_at_call 24; (with_reducible refine (newU_calls _).mono ?_); rintro e w2 ⟨rfl, r0, hS, hb⟩; have HS := Aside0.mk hS; have n1_ := Aside0.mk (below_step HB.out hb); have HW := Aside0.mk HB.out.size; clear HB hb hS; have HB := n1_; clear n1_))
  have HP := Aside0.mk (push99_calls w2 w1.heap.size w1.heap.size r0 [] 0 A0 c0 xs HS.out (C_keepB (fun h => h) (Kd.C_below HC.out HB.out) (C_ltB HC.out (by decide) HW.out (fun k hk => Nat.le_trans HW.out (HS.out.row_ k hk).1))) (by decide) (by have := HN.out; omega) (by have := HN.out; simp only [List.length_nil]; omega) Hp.nil)
  have hsp := pushL_spec mk99 hord99 xs [] [] 0 Hp.nil (List.Perm.refl _)
  have hrise := stamp_rise mk99 (fun y : S99 => y.f1) (fun _ _ => rfl) xs 0
  obtain ⟨M0, hM0⟩ : ∃ M0, pushL ah99 mk99 [] 0 xs = M0 := ⟨_, rfl⟩
  rw [hM0, Int.zero_add] at HP
  rw [hM0, List.nil_append] at hsp
  have HS0 := Aside0.mk (And.intro hsp hrise)
  generalize w1.heap.size = g at HS HP HW ⊢
  clear hsp hrise hM0
  go_upto_region 11 with (go_at_call 26; (with_reducible refine HP.out.mono ?_); rintro e w3 ⟨rfl, r1, hS1, hT1⟩; clear HS; have HS := Aside0.mk hS1; have n1_ := Aside0.mk (HB.out.trans (hT1.below.mono HW.out)); clear HB hS1 hT1 HP; have HB := n1_; clear n1_)
  go_wp2
  go_loopw [8, 9] (fun v8 v9 wr => ∃ (i : Nat) (m : Int), v9 = .int .i64 i ∧ v8 = .int .u8 m ∧ Aside0 (i ≤ xs.length ∧ m ≤ 255 ∧ (∀ j, j < i → m ≤ kU (xs.getD j 0)) ∧ (m = 255 ∨ ∃ j, j < i ∧ m = kU (xs.getD j 0))) ∧ wr = w3) (fun _ v9 _ => xs.length - (intOf v9).toNat)
  case atStart => exact ⟨0, 255, rfl, rfl, ⟨by omega, by omega, fun j hj => absurd hj (by omega), .inl rfl⟩, rfl⟩
  case round =>
    obtain ⟨i, m, rfl, rfl, HI, rfl⟩ := hrel
    by_cases hi : i < xs.length
    · have b1 : decide ((i : Int) < (xs.length : Int)) = true := decide_eq_true (by omega)
      have b2 : (i : Int) < (xs.length : Int) := by omega
      have b3 : 0 ≤ (i : Int) := by omega
      have hw3 : IntKind.i64.wrap ((i : Int) + 1) = (i : Int) + 1 := by have := HN.out; rw [IntKind.wrap_i64]; omega
      obtain ⟨ad, e1, hx⟩ := Kd.at_int (Kd.C_below HC.out HB.out) (i : Int) b3 b2
      subst e1
      obtain ⟨x, hx2⟩ : ∃ x, xs.getD i 0 = x := ⟨_, rfl⟩
      have hx3 : wr.cell? (ad.add i) = some (.int .u8 x) := by
        rw [Int.toNat_natCast] at hx
        exact hx.trans (by rw [show rd xs (i : Int) = xs.getD i 0 from rfl, hx2])
      clear hx
      go_wp2
      refine ⟨⟨i + 1, _, by go_num, rfl, ⟨by omega, ?_, ?_, ?_⟩, trivial⟩, by simp [intOf]; omega⟩
      · have := HI.out.2.1; split <;> omega
      · intro j hj
        have hk : kU x = x.tdiv 64 % 256 := rfl
        rcases Nat.lt_or_ge j i with hji | hji
        · have := HI.out.2.2.1 j hji
          split <;> omega
        · obtain rfl : j = i := by omega
          rw [hx2, hk]
          split <;> omega
      · have hk : kU x = x.tdiv 64 % 256 := rfl
        split
        · exact .inr ⟨i, by omega, by rw [hx2, hk]⟩
        · rcases HI.out.2.2.2 with h | ⟨j, hj, h⟩
          · exact .inl h
          · exact .inr ⟨j, by omega, h⟩
    · have hie : i = xs.length := by have := HI.out.1; omega
      subst hie
      have HLE := Aside0.mk HI.out.2
      have b1 : decide ((xs.length : Int) < (xs.length : Int)) = false := decide_eq_false (by omega)
      clear HI hi
      go_upto_region 15 with (fail)
      clear b1
      go_wp2
      go_loopw [7, 10] (fun v7 v10 wr => ∃ i : Nat, v10 = .int .i64 i ∧ i ≤ xs.length ∧ Aside0 (HS99 wr g g r1 M0 xs.length) ∧ Aside0 (Below w.heap.size w wr) ∧ Aside0 (Kd.R (Kd.int .u8) 5 wr w.heap.size (fun k => k ≠ g ∧ some k ≠ r1) v7 ((xs.take i).filter (fun x => kU x == m)))) (fun _ v10 _ => xs.length - (intOf v10).toNat)
      case atStart => exact ⟨0, rfl, by omega, HS, HB, ⟨Kd.R_nil _ _ _ _ _⟩⟩
      case round =>
        clear HS HB
        obtain ⟨i, rfl, hile, HS, HB, HO⟩ := hrel
        by_cases hi : i < xs.length
        · have b1 : decide ((i : Int) < (xs.length : Int)) = true := decide_eq_true (by omega)
          have b2 : (i : Int) < (xs.length : Int) := by omega
          have b3 : 0 ≤ (i : Int) := by omega
          have hw3 : IntKind.i64.wrap ((i : Int) + 1) = (i : Int) + 1 := by have := HN.out; rw [IntKind.wrap_i64]; omega
          obtain ⟨ad, e1, hx⟩ := Kd.at_int (Kd.C_below HC.out HB.out) (i : Int) b3 b2
          subst e1
          obtain ⟨x, hx2⟩ : ∃ x, xs.getD i 0 = x := ⟨_, rfl⟩
          have hx3 : wr.cell? (ad.add i) = some (.int .u8 x) := by
            rw [Int.toNat_natCast] at hx
            exact hx.trans (by rw [show rd xs (i : Int) = xs.getD i 0 from rfl, hx2])
          have htk : xs.take (i + 1) = xs.take i ++ [x] := by
            rw [List.take_succ_eq_append_getElem hi, ← hx2, List.getD_eq_getElem?_getD, List.getElem?_eq_getElem hi]
            rfl
          have HTK := Aside0.mk htk
          obtain ⟨Ao, co, rfl⟩ := Kd.R_slice HO.out
          have hfl : ((xs.take i).filter (fun x => kU x == m)).length ≤ 20 := by
            have := List.length_filter_le (fun x => kU x == m) (xs.take i)
            rw [List.length_take] at this
            have := HN.out
            omega
          obtain ⟨fs, hfs⟩ : ∃ fs, (xs.take i).filter (fun x => kU x == m) = fs := ⟨_, rfl⟩
          rw [hfs] at HO hfl ⊢
          have HF := Aside0.mk hfs
          have HLM := Aside0.mk (show (fs.length + 1) * 1 ≤ 140737488355328 by omega)
          clear hx htk hfs hfl
          by_cases hk : kU x = m
          · have e1 : (x.tdiv 64 % 256 == m) = true := by rw [beq_iff_eq]; exact hk
            have HKX := Aside0.mk hk
            have HSL := Aside0.mk (And.intro HS.out.lt HS.out.row_)
            clear hk hx2
            go_wp2_with ((with_reducible refine gate_builtin (b := .append) (xs := #[.tmp 54, .tmp 59]) rfl ?_); at_builtin; refine Kd.R_append (Kd.int .u8) (w0 := w) w.heap.size rfl (.tmp 54) (.tmp 59) 62 5 (.int .u8 0) 1 rfl Try.underlying62 infoE99 rfl (by decide) (by omega) (.slice Ao fs.length co) fs x [.int .u8 x] (fun k => k ≠ g ∧ some k ≠ r1) (fun _ => False) rfl rfl rfl (fun _ hk => hk.elim) (fun k hk => ⟨by have := HSL.out.1.1; omega, fun e => by have := (HSL.out.2 k e.symm).2.1; omega⟩) HO.out HB.out HB.out.size HLM.out ?_; intro v1 w4 ho hb hg hat; obtain ⟨A1, c1, rfl⟩ := Kd.R_slice ho; have HO1 := Aside0.mk ho; have HB1 := Aside0.mk hb; have HG1 := Aside0.mk hg; clear ho hb hg hat)
            have n1_ : Aside0 (HS99 w4 g g r1 M0 xs.length) := ⟨HS.out.grown rfl HG1.out (fun e => (HO.out.1 g e.symm).1 rfl) (fun b hb e => (HO.out.1 b e.symm).2 hb.symm)⟩
            go_roundw
            case measure => simp [intOf]; omega
            case rel => exact ⟨i + 1, by go_num, by omega, n1_, HB1, ⟨by
              rw [HTK.out, List.filter_append, HF.out, List.filter_cons_of_pos (by rw [HKX.out]; exact beq_self_eq_true _), List.filter_nil]
              have := HO1.out
              rwa [List.length_append, List.length_singleton] at this⟩⟩
          · have e1 : (x.tdiv 64 % 256 == m) = false := beq_eq_false_iff_ne.mpr hk
            have HKX := Aside0.mk hk
            clear hk hx2
            go_wp2
            go_roundw
            case measure => simp [intOf]; omega
            case rel => exact ⟨i + 1, by go_num, by omega, HS, HB, ⟨by
              rw [HTK.out, List.filter_append, HF.out, List.filter_cons_of_neg (by rw [beq_iff_eq]; exact HKX.out), List.filter_nil, List.append_nil]
              exact HO.out⟩⟩
        · have hie : i = xs.length := by omega
          subst hie
          have b1 : decide ((xs.length : Int) < (xs.length : Int)) = false := decide_eq_false (by omega)
          rw [List.take_length] at HO
          obtain ⟨Ao, co, rfl⟩ := Kd.R_slice HO.out
          clear hi hile
          go_upto_region 20 with (fail)
          clear b1
          go_wp2
          obtain ⟨F, hF⟩ : ∃ F, xs.filter (fun x => kU x == m) = F := ⟨_, rfl⟩
          have hP3 : M0.length = xs.length ∧ Hp ah99 M0 ∧ M0.Perm (stamp mk99 0 xs) ∧ Rise (fun y : S99 => y.f1) (stamp mk99 0 xs) ∧ (∀ y ∈ stamp mk99 0 xs, y.f1 < (xs.length : Int) ∧ m ≤ kU y.f0) ∧ Turned (((stamp mk99 0 xs).filter (fun y => kU y.f0 == m)).map (·.f0)) F 0 := by
            obtain ⟨⟨s1, s2⟩, s3, s4⟩ := HS0.out
            refine ⟨by rw [s2.length_eq, stamp_len], s1, s2, s3, fun y hy => ⟨by have := (s4 y hy).2; omega, ?_⟩, ?_⟩
            · obtain ⟨j, hj, e⟩ := List.getElem_of_mem (stampU_mem xs 0 y hy)
              have := HLE.out.2.1 j hj
              rwa [List.getD_eq_getElem?_getD, List.getElem?_eq_getElem hj, Option.getD_some, e] at this
            · rw [stampU_filter, hF]
              exact Turned.zero F
          have hFn : 0 < xs.length → 0 < F.length := fun hx => by
            obtain ⟨j, hj, e⟩ : ∃ j, j < xs.length ∧ m = kU (xs.getD j 0) := by
              rcases HLE.out.2.2 with h | h
              · refine ⟨0, hx, ?_⟩
                have h1 := HLE.out.2.1 0 hx
                have h2 : kU (xs.getD 0 0) < 256 := Int.emod_lt_of_pos _ (by decide)
                omega
              · exact h
            rw [← hF]
            refine List.length_pos_of_mem (a := xs[j]) (List.mem_filter.2 ⟨List.getElem_mem hj, ?_⟩)
            rw [beq_iff_eq, e, List.getD_eq_getElem?_getD, List.getElem?_eq_getElem hj]
            rfl
          rw [hF] at HO ⊢
          have HP3 := Aside0.mk hP3
          have HFN := Aside0.mk hFn
          clear hP3 hFn hF HS0 HLE HC
          go_loopw [11] (fun v11 wr => ∃ (i : Nat) (M Q : List S99) (r2 : Option Nat) (came : Int), v11 = .int .i64 i ∧ i ≤ 30 ∧ Aside0 (M.length = xs.length ∧ Hp ah99 M ∧ M.Perm Q ∧ Rise (fun y : S99 => y.f1) Q ∧ (∀ y ∈ Q, y.f1 < came ∧ m ≤ kU y.f0) ∧ Turned ((Q.filter (fun y => kU y.f0 == m)).map (·.f0)) F i ∧ 0 ≤ came ∧ came ≤ 20 + (i : Int)) ∧ Aside0 (HS99 wr g g r2 M came) ∧ Aside0 (Below w.heap.size w wr) ∧ Aside0 (Kd.R (Kd.int .u8) 5 wr w.heap.size (fun k => k ≠ g ∧ some k ≠ r2) (.slice Ao F.length co) F)) (fun v11 _ => 30 - (intOf v11).toNat)
          case atStart => exact ⟨0, M0, _, r1, _, rfl, by omega, ⟨HP3.out.1, HP3.out.2.1, HP3.out.2.2.1, HP3.out.2.2.2.1, HP3.out.2.2.2.2.1, HP3.out.2.2.2.2.2, by omega, by have := HN.out; omega⟩, HS, HB, HO⟩
          case round =>
            clear HS HB HO HP3
            obtain ⟨i, M, Q, r2, came, rfl, hi30, HI, HS, HB, HO⟩ := hrel
            obtain ⟨N, hN⟩ : ∃ N, wrap64 (a1.tmod 30) = N := ⟨_, rfl⟩
            have hN30 : N < 30 := by
              rw [← hN]
              have h2 : -30 < a1.tmod 30 ∧ a1.tmod 30 < 30 := by
                rcases Int.le_total 0 a1 with h | h
                · rw [Int.tmod_eq_emod_of_nonneg h]; omega
                · have e : a1 = -(-a1) := by omega
                  rw [e, Int.neg_tmod, Int.tmod_eq_emod_of_nonneg (by omega)]; omega
              unfold wrap64
              omega
            have HN30 := Aside0.mk hN30
            clear hN30
            have hw3 : IntKind.i64.wrap ((i : Int) + 1) = (i : Int) + 1 := by rw [IntKind.wrap_i64]; omega
            by_cases hiN : (i : Int) < N
            · have b1 : decide ((i : Int) < N) = true := decide_eq_true hiN
              have hi2 : i < 30 := by have := HN30.out; omega
              obtain ⟨hl, hp, hP, hR, hQ, hT, hc0', hc1⟩ := HI.out
              by_cases hx0 : xs.length = 0
              · have hM : M.length = 0 := by omega
                have HI2 : Aside0 (M.length = xs.length ∧ Hp ah99 M ∧ M.Perm Q ∧ Rise (fun y : S99 => y.f1) Q ∧ (∀ y ∈ Q, y.f1 < came ∧ m ≤ kU y.f0) ∧ Turned ((Q.filter (fun y => kU y.f0 == m)).map (·.f0)) F (i + 1) ∧ 0 ≤ came ∧ came ≤ 20 + ((i + 1 : Nat) : Int)) := ⟨hl, hp, hP, hR, hQ, by
                  have hQ0 : Q = [] := List.eq_nil_of_length_eq_zero (by rw [← hP.length_eq]; exact hM)
                  subst hQ0
                  have hF0 : F.length = 0 := hT.1.symm
                  exact ⟨hT.1, fun t ht => absurd ht (by omega)⟩, hc0', by omega⟩
                have b5 : decide ((xs.length : Int) > 0) = false := decide_eq_false (by omega)
                have b6 : decide (0 < xs.length) = false := decide_eq_false (by omega)
                have b7 : ((0 : Int) != (xs.length : Int)) = false := by rw [hx0]; rfl
                have hMx : (M.length : Int) = (xs.length : Int) := by omega
                have HM := Aside0.mk hM
                clear hl hp hP hR hQ hT hc0' hc1 HI hx0 hM
                go_wp2_with (first
                  | (go_at_call 27; (with_reducible refine (pop99_none _ g g r2 M came HS.out HM.out).mono ?_); rintro e w5 ⟨rfl, rfl⟩)
                  | (go_at_call 28; (with_reducible refine (len99_calls _ g g r2 M came HS.out).mono ?_); rintro e w6 ⟨rfl, rfl⟩))
                go_roundw
                case measure => simp [intOf]; omega
                case rel => exact ⟨i + 1, M, Q, r2, came, by go_num, by omega, HI2, HS, HB, HO⟩
              · have hx1 : 0 < xs.length := by omega
                have h0 : 0 < M.length := by omega
                have hm40 : M.length < 1099511627776 := by have := HN.out; omega
                have hFp := HFN.out hx1
                obtain ⟨a, t, hat⟩ : ∃ a t, Q.filter (fun y => kU y.f0 == m) = a :: t := by
                  cases hq : Q.filter (fun y => kU y.f0 == m) with
                  | nil => rw [hq] at hT; have := hT.1; simp at this; omega
                  | cons a t => exact ⟨a, t, rfl⟩
                rw [hat, List.map_cons] at hT
                obtain ⟨s1, s2, s3, Q2, s4, s5, s6, s7, s8⟩ := turn_step (key := fun y : S99 => kU y.f0) (at_ := fun y => y.f1) (L := M) (Q := Q) hp hP hR (fun y hy => (hQ y hy).2) hat
                have hhd := hT.head.2
                have hpl := popF_len hord99 M hp h0
                have hI2 : (pushF ah99 (popF ah99 M) (mk99 a.f0 came)).length = xs.length ∧ Hp ah99 (pushF ah99 (popF ah99 M) (mk99 a.f0 came)) ∧ (pushF ah99 (popF ah99 M) (mk99 a.f0 came)).Perm (Q2 ++ [mk99 a.f0 came]) ∧ Rise (fun y : S99 => y.f1) (Q2 ++ [mk99 a.f0 came]) ∧ (∀ y ∈ Q2 ++ [mk99 a.f0 came], y.f1 < came + 1 ∧ m ≤ kU y.f0) ∧ Turned (((Q2 ++ [mk99 a.f0 came]).filter (fun y => kU y.f0 == m)).map (·.f0)) F (i + 1) ∧ 0 ≤ came + 1 ∧ came + 1 ≤ 20 + ((i + 1 : Nat) : Int) := by
                  have pq := push_queue (key := fun y : S99 => kU y.f0) (at_ := fun y => y.f1) s2 s4 (mk99 a.f0 came)
                  refine ⟨by have := pushF_len hord99 (popF ah99 M) (mk99 a.f0 came) s2; omega, pq.1, pq.2, s5.snoc (fun y hy => (hQ y (s6 y hy)).1), fun y hy => ?_, ?_, by omega, by omega⟩
                  · rcases List.mem_append.1 hy with hy | hy
                    · have := hQ y (s6 y hy)
                      exact ⟨by omega, this.2⟩
                    · obtain rfl := List.mem_singleton.1 hy
                      exact ⟨by show came < came + 1; omega, Int.le_of_eq s3.symm⟩
                  · rw [List.filter_append, s7, List.filter_cons_of_pos (p := fun y : S99 => kU y.f0 == m) (by show (kU a.f0 == m) = true; rw [beq_iff_eq]; exact s3), List.filter_nil, List.map_append]
                    exact hT.step
                have HI2 := Aside0.mk hI2
                have hidx : i % F.length < F.length := Nat.mod_lt _ hFp
                obtain ⟨ix, hix⟩ : ∃ ix, i % F.length = ix := ⟨_, rfl⟩
                rw [hix] at hhd hidx
                have hrem : ((i : Int)).tmod (F.length : Int) = (ix : Int) := by rw [Int.tmod_eq_emod_of_nonneg (by omega), ← hix]; rfl
                have hFl := Aside0.mk (show F.length ≤ 20 ∧ 0 < F.length from by have h1 := hT.1; have h2 := List.length_filter_le (fun y : S99 => kU y.f0 == m) Q; rw [hat] at h2; have h3 := hP.length_eq; have := HN.out; simp only [List.length_cons, List.length_map] at h1 h2; omega)
                have HHD := Aside0.mk hhd
                have HPL := Aside0.mk (And.intro hpl hl)
                have hroot : (hgt M 0).f0 = a.f0 := by rw [s1]
                have hcame := Aside0.mk (And.intro hc0' hc1)
                have hs2 := Aside0.mk s2
                have b5 : decide ((xs.length : Int) > 0) = true := decide_eq_true (by omega)
                have b6 : decide (0 < xs.length) = true := decide_eq_true hx1
                have b8 : (ix : Int) < (F.length : Int) := by omega
                have b9 : 0 ≤ (ix : Int) := by omega
                have b10 : ((F.length : Int) == 0) = false := beq_eq_false_iff_ne.mpr (by omega)
                clear hl hp hP hR hQ hT hc0' hc1 HI hat s1 s2 s3 s4 s5 s6 s7 s8 hhd hpl hI2 hix hidx hFp
                go_upto_region 24 with (go_at_call 27; (with_reducible refine (pop99_some _ g g r2 M came HS.out h0 hm40).mono ?_); rintro e w5 ⟨rfl, hS5, hT5⟩; have HT5 := Aside0.mk hT5; clear HS; have HS := Aside0.mk hS5; have n1_ := Aside0.mk (HB.out.trans (hT5.below.mono HW.out)); clear HB hS5 hT5; have HB := n1_; clear n1_)
                have HO5 := Aside0.mk (rowR_keep rfl HO.out HT5.out.keep (fun b hb => ⟨(HO.out.1 b hb).1, (HO.out.1 b hb).2⟩))
                obtain ⟨ad, e1, hxc⟩ := Kd.at_int (Kd.R_reads' HO5.out).2.2 (ix : Int) b9 b8
                subst e1
                have hx3 : w5.cell? (ad.add ix) = some (.int .u8 a.f0) := by
                  rw [Int.toNat_natCast] at hxc
                  exact hxc.trans (by rw [show rd F (ix : Int) = F.getD ix 0 from rfl, ← HHD.out])
                have KP : Aside0 (Calls Try.prog 26 #[.pointer (some ⟨g, 0, none⟩), .slice (some ⟨w5.heap.size, 0, none⟩) 1 1] (w5.alloc (.cells #[.int .u8 a.f0] 5)) fun e w' => e = .returned (.tuple #[]) ∧ ∃ r', HS99 w' g g r' (pushF ah99 (popF ah99 M) (mk99 a.f0 came)) (came + 1) ∧ HpTo w5 w' g g r2 r') := ⟨by
                  have hba := below_alloc (Below.refl w5.heap.size w5) (.cells #[.int .u8 a.f0] 5)
                  have hsa := HS.out.below hba
                  have := push99_calls (w5.alloc (.cells #[.int .u8 a.f0] 5)) g g r2 (popF ah99 M) came (some ⟨w5.heap.size, 0, none⟩) 1 [a.f0] hsa (C_keepB (fun h => h) (litC .u8 5 [a.f0] (by simp) w5) (fun ad e _ => by
                    cases e
                    exact ⟨by have := HS.out.lt; show w5.heap.size ≠ g; omega, fun e => by have := (HS.out.row_ _ e.symm).2.1; simp at this⟩)) hcame.out.1 (by have := hcame.out.2; simp only [List.length_singleton]; omega) (by have := HPL.out; have := HN.out; simp only [List.length_singleton]; omega) hs2.out
                  refine this.mono fun e w' hh => ⟨hh.1, ?_⟩
                  obtain ⟨_, r', h1, h2⟩ := hh
                  exact ⟨r', h1, ((HpTo.refl w5 g g r2).then_below hba HS.out.size).trans h2⟩⟩
                have hLn : ((pushF ah99 (popF ah99 M) (mk99 a.f0 came)).length : Int) = (xs.length : Int) := by rw [HI2.out.1]
                clear hxc HO HT5
                go_wp2_with (first
                  | (go_at_call 26; (with_reducible refine KP.out.mono ?_); rintro e w6 ⟨rfl, r3, hS6, hT6⟩; have HT6 := Aside0.mk hT6; have n3_ := Aside0.mk (rowR_keep rfl HO5.out HT6.out.keep (fun b hb => ⟨(HO5.out.1 b hb).1, (HO5.out.1 b hb).2⟩)); have n4_ := Aside0.mk (fun k (hk : (Value.slice (some ad) F.length co).ownBlock = some k) => And.intro (HO5.out.1 k hk) (Kd.R_lt HO5.out k hk)); clear HS HO5; have HS := Aside0.mk hS6; have HO := n3_; have HOK := n4_; have n1_ := Aside0.mk (HB.out.trans (hT6.below.mono HW.out)); clear HB hS6 hT6 n3_ n4_; have HB := n1_; clear n1_)
                  | (go_at_call 28; (with_reducible refine (len99_calls _ g g _ _ (came + 1) HS.out).mono ?_); rintro e w7 ⟨rfl, rfl⟩))
                go_roundw
                case measure => simp [intOf]; omega
                case rel => exact ⟨i + 1, _, _, r3, came + 1, by go_num, by omega, HI2, HS, HB, ⟨Kd.R_reok rfl HO.out (fun k hk => ⟨(HOK.out k hk).1.1, fun e => by
                  rcases HT6.out.grow with e2 | ⟨b, e2, hb⟩
                  · exact (HOK.out k hk).1.2 (e.trans e2)
                  · have := (HOK.out k hk).2
                    rw [e2] at e
                    injection e with e
                    omega⟩)⟩⟩
            · have b1 : decide ((i : Int) < N) = false := decide_eq_false hiN
              go_wp2
              go_ret
              exact ⟨rfl, HB.out⟩
end Go.Proofs.Ytbmmlkifhhpjcaa.X
