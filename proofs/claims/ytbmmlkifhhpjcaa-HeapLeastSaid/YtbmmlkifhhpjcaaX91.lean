/- HeapLeast: what is peeked at is what is popped, and none that is left stands ahead of it. -/
import Derived.Test.YtbmmlkifhhpjcaaE
import Derived.Test.YtbmmlkifhhpjcaaX7
import Derived.Test.YtbmmlkifhhpjcaaR
namespace Go.Proofs.Ytbmmlkifhhpjcaa.X
open Go.RowKit Go.Proofs.YtbmmlkifhhpjcaaW.PrintWords Go.Proofs.YtbmmlkifhhpjcaaW.PrintLast Go.Proofs.YtbmmlkifhhpjcaaW.PrintMore
attribute [local go_sem] max2_int min2_int max_two min_two max_three min_three max_four min_four
set_option linter.unusedVariables false
set_option linter.unusedSimpArgs false

open Go.Proofs.Ytbmmlkifhhpjcaa
def archivistlaw15_HeapLeast.f (a0 : List Int) : Option Bool := some true
theorem newS_calls (W : World) : Calls Try.prog 29 #[.func (.func 30) #[] #[], .slice none 0 0] W fun e w' => e = .returned (.pointer (some ⟨W.heap.size, 0, none⟩)) ∧ ∃ row', HS102 w' W.heap.size W.heap.size row' [] 0 ∧ Below W.heap.size W w' :=
  new102_calls W none 0 [] (Kd.C_nil _ _) (by decide)
set_option maxHeartbeats 4000000 in
set_option maxRecDepth 1000000 in
theorem archivistlaw15_HeapLeast.calls (A0 : Option Addr) (c0 : Nat) (l0 : List Int) (r : Bool) (w : World) (hr0 : Kd.C (Kd.int .i16) w A0 l0.length l0) (hc0 : l0.length ≤ c0) (h : archivistlaw15_HeapLeast.f l0 = some r) :
    Calls Try.prog 6 #[.slice A0 l0.length c0] w fun e w' => e = .returned (.bool r) ∧ Below w.heap.size w w' := by
  obtain rfl : true = r := Option.some.inj h
  obtain ⟨xs, hxs⟩ : ∃ xs, l0.take 30 = xs := ⟨_, rfl⟩
  have hlx : xs.length ≤ l0.length ∧ xs.length ≤ 30 := by rw [← hxs, List.length_take]; omega
  have hmn : (if (30 : Int) < (l0.length : Int) then 30 else (l0.length : Int)) = (xs.length : Int) := by
    rw [← hxs, List.length_take]
    split <;> omega
  have hC : Kd.C (Kd.int .i16) w A0 xs.length xs := by
    have := Kd.C_take hr0 (m := xs.length) hlx.1
    rwa [show l0.take xs.length = xs by rw [← hxs, List.length_take, List.take_eq_take_iff]; omega] at this
  have HC := Aside0.mk hC
  have HB := Aside0.mk (Below.refl w.heap.size w)
  have HN := Aside0.mk hlx
  have q1 : 0 ≤ (xs.length : Int) := by omega
  have q2 : (xs.length : Int) ≤ (c0 : Int) := by omega
  clear h hr0 hC hxs
  go_enter Try.func6, Try.ntmps6
  go_upto_region 8 with (first
    | (go_at_call 7; (with_reducible refine (examples_calls _).mono ?_); rintro e w1 ⟨rfl, hb⟩; have n1_ := Aside0.mk (below_step HB.out hb); clear HB hb; have HB := n1_; clear n1_)
    | (go_at_call 29; (with_reducible refine (newS_calls _).mono ?_); rintro e w2 ⟨rfl, r0, hS, hb⟩; have HS := Aside0.mk hS; have n1_ := Aside0.mk (below_step HB.out hb); have HW := Aside0.mk HB.out.size; clear HB hb hS; have HB := n1_; clear n1_))
  have HP := Aside0.mk (push102_calls w2 w1.heap.size w1.heap.size r0 [] 0 A0 c0 xs HS.out (C_keepB (fun h => h) (Kd.C_below HC.out HB.out) (C_ltB HC.out (by decide) HW.out (fun k hk => Nat.le_trans HW.out (HS.out.row_ k hk).1))) (by decide) (by have := HN.out; omega) (by have := HN.out; simp only [List.length_nil]; omega) Hp.nil)
  have hsp := pushL_spec mk102 hord102 xs [] [] 0 Hp.nil (List.Perm.refl _)
  have hln := pushL_len mk102 hord102 xs [] 0 Hp.nil
  obtain ⟨M0, hM0⟩ : ∃ M0, pushL ah102 mk102 [] 0 xs = M0 := ⟨_, rfl⟩
  rw [hM0] at HP hsp hln
  have HS0 := Aside0.mk (And.intro hsp.1 hln)
  generalize w1.heap.size = g at HS HP HW ⊢
  clear hsp hln hM0 HC
  go_upto_region 10 with (go_at_call 31; (with_reducible refine HP.out.mono ?_); rintro e w3 ⟨rfl, r1, hS1, hT1⟩; clear HS; have HS := Aside0.mk hS1; have n1_ := Aside0.mk (HB.out.trans (hT1.below.mono HW.out)); clear HB hS1 hT1 HP; have HB := n1_; clear n1_)
  go_wp2
  go_loopw [5, 6] (fun v5 v6 wr => ∃ (i : Nat) (last : Int) (M : List S102) (came : Int), v6 = .int .i64 i ∧ v5 = .int .i16 last ∧ Aside0 (M.length + i = xs.length) ∧ Aside0 (Hp ah102 M) ∧ Aside0 (i = 0 ∨ ∀ y ∈ M, last ≤ y.f0) ∧ Aside0 (HS102 wr g g r1 M came) ∧ Aside0 (Below w.heap.size w wr)) (fun _ v6 _ => xs.length - (intOf v6).toNat)
  case atStart => exact ⟨0, 0, M0, _, rfl, rfl, ⟨by have := HS0.out.2; simpa using this⟩, ⟨HS0.out.1⟩, ⟨.inl rfl⟩, HS, HB⟩
  case round =>
    clear HS HB HS0
    obtain ⟨i, last, M, came, rfl, rfl, HL, HPM, HLA, HS, HB⟩ := hrel
    by_cases hi : i < xs.length
    · have hml := HL.out
      have h0 : 0 < M.length := by omega
      have hm : M.length < 1099511627776 := by have := HN.out; omega
      have ls := least_step (key := fun y : S102 => y.f0) (at_ := fun y => y.f1) HPM.out h0
      have LS := Aside0.mk (And.intro ls.1 ls.2.2.2)
      have hpl : (popF ah102 M).length + 1 = M.length := ls.2.1
      have b1 : decide ((i : Int) < (xs.length : Int)) = true := decide_eq_true (by omega)
      have b2 : (i : Int) < (xs.length : Int) := by omega
      have hw1 : IntKind.i64.wrap ((xs.length : Int) - 1) = (xs.length : Int) - 1 := by have := HN.out; rw [IntKind.wrap_i64]; omega
      have hw2 : IntKind.i64.wrap ((xs.length : Int) - 1 - (i : Int)) = ((popF ah102 M).length : Int) := by have := HN.out; rw [IntKind.wrap_i64]; omega
      have hw3 : IntKind.i64.wrap ((i : Int) + 1) = (i : Int) + 1 := by have := HN.out; rw [IntKind.wrap_i64]; omega
      have hle : i = 0 ∨ last ≤ (hgt M 0).f0 := HLA.out.imp id (fun h => h _ ls.2.2.1)
      clear ls HPM HLA HL
      by_cases hi0 : i = 0
      · subst hi0
        go_wp2_with (first
        | (go_at_call 32; (with_reducible refine (peek102_some _ g g r1 M came HS.out h0).mono ?_); rintro e w4 ⟨rfl, rfl⟩)
        | (go_at_call 33; (with_reducible refine (pop102_some _ g g r1 M came HS.out h0 hm).mono ?_); rintro e w5 ⟨rfl, hS5, hT5⟩; clear HS; have HS := Aside0.mk hS5; have n1_ := Aside0.mk (HB.out.trans (hT5.below.mono HW.out)); clear HB hS5 hT5; have HB := n1_; clear n1_)
        | (go_at_call 34; (with_reducible refine (len102_calls _ g g r1 _ came HS.out).mono ?_); rintro e w6 ⟨rfl, rfl⟩))
        go_roundw
        case measure => simp [intOf]; omega
        case rel => exact ⟨0 + 1, _, popF ah102 M, came, by go_num, rfl, ⟨by omega⟩, ⟨LS.out.1⟩, ⟨.inr LS.out.2⟩, HS, HB⟩
      · have hlt : decide ((hgt M 0).f0 < last) = false := decide_eq_false (by have := hle.resolve_left hi0; omega)
        have b3 : decide ((i : Int) > 0) = true := decide_eq_true (by omega)
        have b4 : decide (0 < i) = true := decide_eq_true (by omega)
        clear hle
        go_wp2_with (first
        | (go_at_call 32; (with_reducible refine (peek102_some _ g g r1 M came HS.out h0).mono ?_); rintro e w4 ⟨rfl, rfl⟩)
        | (go_at_call 33; (with_reducible refine (pop102_some _ g g r1 M came HS.out h0 hm).mono ?_); rintro e w5 ⟨rfl, hS5, hT5⟩; clear HS; have HS := Aside0.mk hS5; have n1_ := Aside0.mk (HB.out.trans (hT5.below.mono HW.out)); clear HB hS5 hT5; have HB := n1_; clear n1_)
        | (go_at_call 34; (with_reducible refine (len102_calls _ g g r1 _ came HS.out).mono ?_); rintro e w6 ⟨rfl, rfl⟩))
        go_roundw
        case measure => simp [intOf]; omega
        case rel => exact ⟨i + 1, _, popF ah102 M, came, by go_num, rfl, ⟨by omega⟩, ⟨LS.out.1⟩, ⟨.inr LS.out.2⟩, HS, HB⟩
    · have hie : M.length = 0 ∧ i = xs.length := by have := HL.out; omega
      obtain ⟨h0, rfl⟩ := hie
      have hnil : M = [] := List.eq_nil_of_length_eq_zero h0
      subst hnil
      have b1 : decide ((xs.length : Int) < (xs.length : Int)) = false := decide_eq_false (by omega)
      clear HL hi h0
      go_wp2_with (first
        | (go_at_call 32; (with_reducible refine (peek102_none _ g g r1 [] came HS.out rfl).mono ?_); rintro e w4 ⟨rfl, rfl⟩)
        | (go_at_call 35; (with_reducible refine (drain102_calls _ g g r1 [] came HS.out Hp.nil (by decide)).mono ?_); rintro e w5 ⟨v5, rfl, hR5, hS5, hT5⟩; obtain ⟨A5, c5, rfl⟩ := Kd.R_slice hR5; have n1_ := Aside0.mk (HB.out.trans (hT5.below.mono HW.out)); clear HB hS5 hT5 hR5; have HB := n1_; clear n1_))
      go_ret
      exact ⟨rfl, HB.out⟩
end Go.Proofs.Ytbmmlkifhhpjcaa.X
