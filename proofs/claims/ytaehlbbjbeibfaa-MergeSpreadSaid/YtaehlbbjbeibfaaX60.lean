-- Laid by xprint.py, a program of this session's, out of the translation.
import Derived.Test.YtaehlbbjbeibfaaX0
import Derived.Test.YtaehlbbjbeibfaaX2
import Derived.Test.YtaehlbbjbeibfaaX3
import Derived.Test.YtaehlbbjbeibfaaX4
import Derived.Test.YtaehlbbjbeibfaaHK
namespace Go.Proofs.Ytaehlbbjbeibfaa.X
open Go.RowKit Go.Proofs.YtaehlbbjbeibfaaW.PrintWords Go.Proofs.YtaehlbbjbeibfaaW.PrintLast Go.Proofs.YtaehlbbjbeibfaaW.PrintMore
attribute [local go_sem] max2_int min2_int max_two min_two max_three min_three max_four min_four x_isSome x_str_gtr x_str_leq x_str_geq   -- for this text's walks alone
set_option linter.unusedVariables false
set_option linter.unusedSimpArgs false

/-! ### merge_All: function 12 -/
def merge_All.f (k : Nat) (a0 : Bool) (a1 : Int) (l2 : List (List S26)) : Option ((List S26) × Bool) := if fitL l2 then some (allE a0 a1 l2) else none
theorem merge_All.mono : ∀ a0 a1 l2 k, LeO (merge_All.f k a0 a1 l2) (merge_All.f (k + 1) a0 a1 l2) := fun _ _ _ _ => LeO.refl _
def merge_All.T15 : Bool × List (List Nat × List Nat) := (true, [([], []), ([0], [0]), ([1], [1]), ([2], [2]), ([3], [3]), ([3], [3]), ([5, 3], [3, 5]), ([6, 3], [3, 6]), ([4, 7, 3], [3, 4, 7]), ([8, 3], [3, 8]), ([3], [3]), ([10, 3], [3, 10]), ([11, 3], [3, 11]), ([9, 12, 3, 3], [3, 9, 12]), ([13, 3], [3, 13]), ([3, 14], [3, 14])])
def merge_All.B15 : List Nat := [0, 1, 3, 7, 15, 15, 47, 111, 255, 511, 15, 1039, 3087, 8191, 16383, 32767]
theorem merge_All.tab15 : rtab .any (opsOf Try.f12 15) = merge_All.T15 := by kernel_rfl
theorem merge_All.bits15 : waitsOk merge_All.T15.2 merge_All.B15 = true := by kernel_rfl
theorem merge_All.at {w : World} {P : Nat → Prop} {A : Option Addr} {ls : List (List S26)} (hF : Kd.F (Kd.slice 26 k26) w P A ls.length ls) (i : Nat) (hi : i < ls.length) : ∃ ad A1 c1, A = some ad ∧ w.cell? (ad.add i) = some (.slice A1 (ls.getD i []).length c1) ∧ (ls.getD i []).length ≤ c1 ∧ Kd.F k26 w P A1 (ls.getD i []).length (ls.getD i []) := by
 obtain ⟨ad, cs, rfl, hcl, hK, hcc, _⟩ := Kd.F_get hF [] (i : Int) (by omega) (by omega)
 rw [Int.toNat_natCast] at hK hcc
 obtain ⟨A1, c1, rfl, h1, h2⟩ := Kd.FK_slice_open hK
 have hc : ∀ j u, ([.slice A1 (ls.getD i []).length c1] : List Value)[j]? = some u → w.cell? (ad.add (i * 1 + j)) = some u := hcc
 exact ⟨ad, A1, c1, rfl, by have := hc 0 _ rfl; rwa [Nat.mul_one, Nat.add_zero] at this, h1, h2⟩
theorem merge_All.keep {W W1 : World} {a b : Addr} {v0 v1 v2 u0 u1 u2 : Value} (h : W.cell? a = some v0 ∧ W.cell? ⟨a.block, a.off + 1, none⟩ = some v1 ∧ W.cell? ⟨a.block, a.off + 2, none⟩ = some v2 ∧ W.cell? b = some u0 ∧ W.cell? ⟨b.block, b.off + 1, none⟩ = some u1 ∧ W.cell? ⟨b.block, b.off + 2, none⟩ = some u2) (hb : Below W.heap.size W W1) :
  W1.cell? a = some v0 ∧ W1.cell? ⟨a.block, a.off + 1, none⟩ = some v1 ∧ W1.cell? ⟨a.block, a.off + 2, none⟩ = some v2 ∧ W1.cell? b = some u0 ∧ W1.cell? ⟨b.block, b.off + 1, none⟩ = some u1 ∧ W1.cell? ⟨b.block, b.off + 2, none⟩ = some u2 := by
 have f : ∀ {p : Addr} {x : Value}, W.cell? p = some x → W1.cell? p = some x := fun hx => (hb.cell (World.block_lt_of_cell? W _ hx)).trans hx
 exact ⟨f h.1, f h.2.1, f h.2.2.1, f h.2.2.2.1, f h.2.2.2.2.1, f h.2.2.2.2.2⟩
theorem merge_All.len48 {n : Nat} (h : n < 1000000) : (n + 1) * 48 ≤ 140737488355328 := by omega
set_option maxHeartbeats 8000000 in
set_option maxRecDepth 1000000 in
theorem merge_All.calls (k : Nat) (a0 : Bool) (a1 : Int) (P2_ : Nat → Prop) (A2 : Option Addr) (c2 : Nat) (l2 : List (List S26)) (r1 : List S26) (r2 : Bool) (w : World) (hs2 : Kd.V (Kd.slice 26 k26) 34 w w.heap.size (fun k_ => P2_ k_) (.slice A2 l2.length c2) l2) (h : merge_All.f k a0 a1 l2 = some (r1, r2)) :
  Calls Try.prog 12 #[.bool a0, .int .i64 a1, .slice A2 l2.length c2] w fun e w' => ∃ v0_ : Value, e = .returned (.tuple #[v0_, .bool r2]) ∧ Kd.N k26 26 w' w.heap.size (fun k_ => (P2_ k_ ∨ w.heap.size ≤ k_)) v0_ r1 ∧ Below w.heap.size w w' := by
 obtain ⟨_, hc2, hF⟩ := Kd.V_at hs2; unfold merge_All.f at h; by_cases hfit : fitL l2
 ·rw [if_pos hfit] at h; have hE : allE a0 a1 l2 = (r1, r2) := Option.some.inj h; obtain ⟨n, hn⟩ : ∃ n, l2.length = n := ⟨_, rfl⟩; obtain ⟨hf1, hf2, hf3⟩ := hfit; have HE := Aside0.mk hE; have HF := Aside0.mk hF; have HN := Aside0.mk hn; have HF1 := Aside0.mk hf1; have HF2 := Aside0.mk hf2; have HF3 := Aside0.mk hf3; have hnn : n < 1000000 := by omega
  have hn1 : (n : Int) < 1000000 := by omega
  rw [hn]; have HLS := Aside0.mk (less_calls a0 w); have b1 := below_alloc (Below.refl w.heap.size w) (.cells #[.bool a0] 4); have k0 := blk_new w (.cells #[.bool a0] 4); have z1 : (w.alloc (.cells #[.bool a0] 4)).heap.size = w.heap.size + 1 := by simp
  generalize w.alloc (.cells #[.bool a0] 4) = w1 at HLS b1 k0 z1; have b2 := below_alloc b1 (.cells #[.func (.func 39) #[] #[.pointer (some ⟨w.heap.size, 0, none⟩)]] 60); have k1 := blk_alloc k0 (.cells #[.func (.func 39) #[] #[.pointer (some ⟨w.heap.size, 0, none⟩)]] 60); have k2 := blk_new w1 (.cells #[.func (.func 39) #[] #[.pointer (some ⟨w.heap.size, 0, none⟩)]] 60); have hbx : BoxL a0 (w1.alloc (.cells #[.func (.func 39) #[] #[.pointer (some ⟨w.heap.size, 0, none⟩)]] 60)) (w1.alloc (.cells #[.func (.func 39) #[] #[.pointer (some ⟨w.heap.size, 0, none⟩)]] 60)).heap.size w1.heap.size := ⟨by simp, w.heap.size, k2, by simp; omega, k1⟩; have HNW := Aside0.mk (new91_calls (asc := a0) (W0 := w) (gc := w1.heap.size) _ none 0 [] (Kd.C_nil _ _) hbx b2 (fun x hx => by simp at hx) (by decide)); rw [show ([] : List (Hdr S26)).length = 0 from rfl] at HNW; have HBX := Aside0.mk hbx; have HB2 := Aside0.mk b2; have HZ1 := Aside0.mk z1; clear hs2 hc2 hF h hE hn hf1 hf2 hf3 b1 b2 k0 k1 k2 hbx z1; go_enter Try.func12, Try.ntmps12
  go_upto_region 2 with (go_at_call 25; (with_reducible refine HLS.out.mono ?_); rintro e w1 ⟨rfl, rfl⟩)
  generalize w1.alloc (.cells #[.func (.func 39) #[] #[.pointer (some ⟨w.heap.size, 0, none⟩)]] 60) = w2 at HNW HBX HB2 ⊢; go_upto_region 3 with (go_at_call 26; (with_reducible refine HNW.out.mono ?_); rintro e w3 ⟨rfl, row0, hS3, hb3⟩; have HS3 := Aside0.mk hS3; have HB3 := Aside0.mk hb3; clear hS3 hb3)
  have HI0 : Aside0 (AInv a0 P2_ w w3 w2.heap.size w1.heap.size row0 [] 0) := ⟨⟨HS3.out, ⟨HBX.out.step HB3.out, HB2.out.trans (HB3.out.mono HB2.out.size), HB2.out.size⟩, fun y hy => by simp at hy, fun y hy => by simp at hy, Hp.nil⟩⟩; clear HS3 HBX HB3 HB2 HNW HLS HZ1; generalize w1.heap.size = gc at HI0 ⊢; generalize w2.heap.size = g at HI0 ⊢; clear w1 w2; go_wp2
  go_loopg [21] n (fun kq v21 wr => ∃ (i : Nat) (row : Option Nat) (M : List S91), v21 = .int .i64 i ∧ Aside0 (i ≤ n ∧ n - i ≤ kq) ∧ Aside0 (AInv a0 P2_ w wr g gc row M M.length) ∧ Aside0 ((lsOf M).Perm ((l2.take i).filter (fun l => !l.isEmpty))) ∧ Aside0 (∀ l ∈ l2.take i, sortedB a0 l = true))
  case atStart => exact ⟨0, row0, [], rfl, ⟨by omega⟩, HI0, ⟨by rw [List.take_zero]; exact List.Perm.refl _⟩, ⟨fun l hl => by rw [List.take_zero] at hl; simp at hl⟩⟩
  case round =>
   clear HI0; obtain ⟨i, row, M, rfl, HK, HI, HP, HS⟩ := hrel; by_cases hin : i < n
   ·obtain ⟨ad, A, c, rfl, x0, hlc, hlf⟩ := merge_All.at HF.out i (by have := HN.out; omega)
    have hlm : l2.getD i [] ∈ l2 := by
     rw [List.getD_eq_getElem?_getD, List.getElem?_eq_getElem (by have := HN.out; omega)]; exact List.getElem_mem _
    have htk : l2.take (i + 1) = l2.take i ++ [l2.getD i []] := by
     rw [List.take_succ_eq_append_getElem (by have := HN.out; omega), List.getD_eq_getElem?_getD, List.getElem?_eq_getElem (by have := HN.out; omega)]; rfl
    generalize l2.getD i [] = l at x0 hlc hlf hlm htk; have hok := HF3.out l hlm; obtain ⟨b, hb⟩ : ∃ b, sortedB a0 l = b := ⟨_, rfl⟩; obtain ⟨k28, hk28⟩ := ev_at (sortedF_ev a0 l hok); rw [hb] at hk28; have hCw := Kd.F_now hlf; have HSo := Aside0.mk (entry_Sorted.calls k28 a0 A c l b wr (Kd.C_below hCw HI.out.env.bel) hlc hk28); have HX0 := Aside0.mk x0; have x0 : wr.cell? (ad.add i) = some (.slice A l.length c) := (HI.out.env.bel.cell (World.block_lt_of_cell? w _ HX0.out)).trans HX0.out; have HLC := Aside0.mk hlc; have HLF := Aside0.mk hlf; have HOK := Aside0.mk hok; have HLM := Aside0.mk hlm; have HTK := Aside0.mk htk; have HBS := Aside0.mk hb; have HIN := Aside0.mk hin; have hi0 : (0 : Int) ≤ (i : Int) := by omega
    have hi1 : (i : Int) < (n : Int) := by omega
    have hib : decide ((i : Int) < (n : Int)) = true := decide_eq_true hi1; have hw1 : IntKind.i64.wrap ((i : Int) + 1) = ((i + 1 : Nat) : Int) := by rw [IntKind.wrap_i64]; omega
    clear hlc hlf hok hlm htk hb hk28 hCw hin; cases b with
    | false =>
     go_wp2_with (go_at_call 28; (with_reducible refine HSo.out.mono ?_); rintro e w4 ⟨rfl, hb4⟩; have HB4 := Aside0.mk hb4; clear hb4)
     have hr : (([] : List S26), false) = (r1, r2) := by
      rw [← HE.out]; unfold allE; rw [if_neg]; intro hall; rw [List.all_eq_true] at hall; have := hall l HLM.out; rw [HBS.out] at this; cases this
     injection hr with hr1 hr2; subst hr1 hr2; go_ret2
     exact ⟨.slice none 0 0, rfl, Kd.N_nil _ _ _ _ _, HI.out.env.bel.trans (HB4.out.mono HI.out.env.bel.size)⟩
    | true =>
     have hsrt : ∀ z ∈ l2.take (i + 1), sortedB a0 z = true := by
      rw [HTK.out]; intro z hz; rcases List.mem_append.1 hz with hz | hz
      ·exact HS.out z hz
      ·rw [List.mem_singleton] at hz; rw [hz]; exact HBS.out
     have HSR := Aside0.mk hsrt; clear hsrt; by_cases hl0 : l = []
     ·subst hl0; have hg0 : decide (((([] : List S26).length : Nat) : Int) > 0) = false := by decide
      have hg1 : decide (0 < ([] : List S26).length) = false := by decide
      rw [show ([] : List S26).length = 0 from rfl] at HSo x0; go_wp2_with (go_at_call 28; (with_reducible refine HSo.out.mono ?_); rintro e w4 ⟨rfl, hb4⟩; have HI4 := Aside0.mk (HI.out.below hb4); clear hb4)
      go_roundg (n - (i + 1))
      case measure => have := HK.out; have := HIN.out; omega
      case rel =>
       refine ⟨i + 1, row, M, by first | rfl | (rw [hw1]), ⟨by have := HIN.out; omega⟩, HI4, ⟨?_⟩, HSR⟩; rw [HTK.out, List.filter_append]; simpa using HP.out
     ·have hlen : 0 < l.length := List.length_pos_iff.2 hl0; have hg0 : decide ((l.length : Int) > 0) = true := decide_eq_true (by omega); have hg1 : decide (0 < l.length) = true := decide_eq_true hlen
      have hll : l.length ≤ 4398046511104 := by
       have h1 := HF2.out; have h2 : l.length ≤ l2.flatten.length := (List.sublist_flatten_of_mem HLM.out).length_le; omega
      have hML : M.length ≤ i := by
       have h1 := HP.out.length_eq; rw [lsOf_len] at h1; have h2 : M.length ≤ (l2.take i).length := Nat.le_trans (Nat.le_of_eq h1) (List.length_filter_le _ _); have h3 := List.length_take_le i l2; omega
      have HLEN := Aside0.mk hlen; have HRD : Aside0 (RdL w ⟨A, l.length, c, l⟩) := ⟨⟨rfl, HLC.out, Kd.F_now HLF.out, hlen, fun e he => HOK.out e he⟩⟩; have HML := Aside0.mk hML; clear hll hML hlen; go_wp2_with (first | (go_at_call 28; (with_reducible refine HSo.out.mono ?_); rintro e w4 ⟨rfl, hb4⟩; have HI4 := Aside0.mk (HI.out.below hb4); clear hb4; have HPU := Aside0.mk (HI4.out.push ⟨A, l.length, c, l⟩ HRD.out HLF.out (by omega) (by have := HML.out; omega) (by have := HML.out; omega)); dsimp only at HPU) | (go_at_call 29; (with_reducible refine HPU.out.mono ?_); rintro e w5 ⟨rfl, row5, hI5, hT5⟩; have HI5 := Aside0.mk hI5; clear hI5 hT5))
      go_roundg (n - (i + 1))
      case measure => have := HK.out; have := HIN.out; omega
      case rel =>
       have hpf := pushF_spec (hordG91 a0) M (mk91 ⟨A, l.length, c, l⟩ (M.length : Int)) HI.out.hp; have hlen5 : (pushF (ahG91 a0) M (mk91 ⟨A, l.length, c, l⟩ (M.length : Int))).length = M.length + 1 := by rw [hpf.2.length_eq]; simp
       refine ⟨i + 1, row5, pushF (ahG91 a0) M (mk91 ⟨A, l.length, c, l⟩ (M.length : Int)), by first | rfl | (rw [hw1]), ⟨by have := HIN.out; omega⟩, ⟨by rw [hlen5]; exact HI5.out⟩, ⟨?_⟩, HSR⟩; refine (lsOf_push a0 M _ _ HI.out.hp).trans ?_; rw [HTK.out, List.filter_append]
       have e1 : [l].filter (fun l => !l.isEmpty) = [l] := by
        cases l with
        | nil => exact absurd rfl hl0
        | cons x t => rfl
       rw [e1]; exact (List.Perm.cons l HP.out).trans (List.perm_append_comm (l₁ := [l]))
   ·have hib : decide ((i : Int) < (n : Int)) = false := decide_eq_false (by omega); have hib2 : decide (i < n) = false := decide_eq_false hin; have hnn2 : (n : Int) ≤ (i : Int) := by omega
    obtain rfl : i = n := by have := HK.out; omega
    have htk : l2.take i = l2 := List.take_of_length_le (by rw [HN.out]; exact Nat.le_refl _); have HALL : Aside0 (∀ l ∈ l2, sortedB a0 l = true) := ⟨fun l hl => HS.out l (by rw [htk]; exact hl)⟩; have HPL : Aside0 ((lsOf M).Perm (l2.filter (fun l => !l.isEmpty))) := ⟨by have := HP.out; rwa [htk] at this⟩
    have hlen0 : M.length ≤ i := by
     have h1 := HPL.out.length_eq; rw [lsOf_len] at h1; have h2 : M.length ≤ l2.length := Nat.le_trans (Nat.le_of_eq h1) (List.length_filter_le _ _); have := HN.out; omega
    have HTOT : Aside0 ((lsOf M).flatten.length < 1000000) := ⟨by
     have h1 : (lsOf M).flatten.length = (l2.filter (fun l => !l.isEmpty)).flatten.length := HPL.out.flatten.length_eq; have h2 : (l2.filter (fun l => !l.isEmpty)).flatten = l2.flatten := List.flatten_filter_not_isEmpty; have h3 := HF2.out; rw [h1]; have h4 : (l2.filter (fun l => !l.isEmpty)).flatten.length = l2.flatten.length := congrArg List.length h2; rw [h4]; exact h3⟩
    have HST : Aside0 (St a0 P2_ w wr g gc l2 a1 row M (M.length : Int) (.slice none 0 0) [] (lsOf M)) := ⟨⟨HI.out, Kd.N_nil _ _ _ _ _, MInv.start l2 (lsOf M) (fun l hl => (sortedB_srt a0 l).1 (HALL.out l hl)) (fun l => by
     rw [HPL.out.mem_iff, List.mem_filter]; refine and_congr_right fun _ => ?_
     cases l with
     | nil => simp
     | cons a t => simp), Nat.zero_le _, by omega, by have := HTOT.out; omega⟩⟩
    clear htk hlen0 HK HP HS HI hin; go_upto_region 12 with (fail)
    go_cut [13, 14] (fun v13 v14 wc => Aside0 (Head a0 P2_ w g gc l2 a1 (lsOf M).flatten.length wc (.slice none 0 0) v13 v14))
    case first =>
     by_cases hM0 : M.length = 0
     ·go_wp2_with (go_at_call 30; (with_reducible refine (HST.out.inv.pop0 hM0).mono ?_); rintro e w4 ⟨rfl, rfl⟩)
      go_meet
      exact ⟨HST.out.pop0 hM0 (Nat.le_refl _)⟩
     ·have hM1 : 0 < M.length := Nat.pos_of_ne_zero hM0; go_wp2_with (go_at_call 30; (with_reducible refine (HST.out.inv.pop hM1 (by have := HST.out.mlen; omega)).mono ?_); rintro e w4 ⟨rfl, hI4, hT4⟩; have HI4 := Aside0.mk hI4; have HT4 := Aside0.mk hT4; clear hI4 hT4)
      go_meet
      exact ⟨HST.out.pop1 hM1 (Nat.le_refl _) HI4.out HT4.out⟩
    case rest =>
     have HH := hcut; clear hcut HST HPL hib hib2 hnn2; generalize (lsOf M).flatten.length = tot at HH HTOT; clear M; go_wp2
     go_loopg [12, 13, 14] tot (fun kq v12 v13 v14 wr => Aside0 (Head a0 P2_ w g gc l2 a1 kq wr v12 v13 v14))
     case atStart => exact HH
     case round =>
      clear HH; obtain ⟨row, M, came, out, rem, hSt, hle, hc⟩ := hrel.out; clear hrel; have HST := Aside0.mk hSt; have HLE := Aside0.mk hle; clear hSt hle; have hallt : l2.all (sortedB a0) = true := List.all_eq_true.2 HALL.out
      have HRES : Aside0 (((canon (B.ahE a0) l2.flatten).take a1.toNat, true) = (r1, r2)) := ⟨by
       have := HE.out; unfold allE at this; rwa [if_pos hallt] at this⟩
      clear hallt; obtain ⟨Ao, co, rfl⟩ := Kd.N_slice HST.out.o
      have HOL : Aside0 (out.length < 1000000) := ⟨by
       have h1 := congrArg List.length (HST.out.m.cut (totE a0)); have h2 := canon_len (ah := B.ahE a0) l2.flatten; rw [List.length_take] at h1; have := HF2.out; omega⟩
      rcases hc with ⟨rfl, rfl, hr⟩ | ⟨xA, xn, xc, xl, rfl, rfl, hr, hRd, hXF, hL⟩
      ·have hr1 : out = r1 ∧ true = r2 := by
        have h1 := HRES.out; have h2 := HST.out.m; rw [hr] at h2; rw [h2.done (totE a0), List.take_of_length_le HST.out.len] at h1; injection h1 with h1 h3; exact ⟨h1, h3⟩
       obtain ⟨rfl, rfl⟩ := hr1; have HBE := Aside0.mk HST.out.inv.env.bel
       have HNE : Aside0 (Kd.N k26 26 wr w.heap.size (fun k_ => (P2_ k_ ∨ w.heap.size ≤ k_)) (.slice Ao out.length co) out) := ⟨Kd.N_mono (Kd.N_lower HST.out.o HST.out.inv.le.1) (fun k hk => by
        rcases hk with hk | hk
        ·exact .inl hk.1
        ·exact .inr hk.1)⟩
       clear hr; go_wp2
       go_ret2
       exact ⟨_, rfl, HNE.out, HBE.out⟩
      ·obtain ⟨hn1_, hn2_, hn3_, hn4_, hn5_⟩ := hRd; dsimp only at hn1_ hn2_ hn3_ hn4_ hn5_; subst hn1_; have HRD := Aside0.mk (And.intro hn2_ (And.intro hn3_ (And.intro hn4_ hn5_))); have HXF := Aside0.mk hXF; have HL := Aside0.mk hL; have HREM := Aside0.mk hr; clear hn2_ hn3_ hn4_ hn5_ hXF hL hr; by_cases hlt : (out.length : Int) < a1
       ·obtain ⟨e, t, hxl⟩ : ∃ e t, xl = e :: t := by
         cases hq : xl with
         | nil => have := HRD.out.2.2.1; rw [hq] at this; simp at this
         | cons e t => exact ⟨e, t, rfl⟩
        have HXL := Aside0.mk hxl; have hS0 := HST.out; rw [HREM.out] at hS0; have HS0 := Aside0.mk hS0; obtain ⟨ad2, cs, rfl, hcl, hK, hcc, _⟩ := Kd.F_get HXF.out z26 0 (by decide) (by have := HRD.out.2.2.1; omega); have hge : xl.getD (0 : Int).toNat z26 = e := by rw [hxl]; rfl
        rw [hge] at hK; have HFK := Aside0.mk hK; obtain ⟨A1, d1, rfl, hd1, hd2⟩ := k26_openF hK; have hcc2 : ∀ j u, ([.int .i64 e.f0, .slice A1 e.f1.length d1, .string e.f2] : List Value)[j]? = some u → w.cell? (ad2.add (0 * 3 + j)) = some u := hcc; have hbel := HST.out.inv.env.bel
        have y0 : wr.cell? ad2 = some (.int .i64 e.f0) := by
         have := hcc2 0 _ rfl; rw [Nat.zero_mul, Addr.add_zero'] at this; exact (hbel.cell (World.block_lt_of_cell? w _ this)).trans this
        have y1 : wr.cell? ⟨ad2.block, ad2.off + 1, none⟩ = some (.slice A1 e.f1.length d1) := by
         have := hcc2 1 _ rfl; rw [add_field _ _ 1 (by omega), Nat.zero_mul, Addr.add_zero'] at this; exact (hbel.cell (World.block_lt_of_cell? w _ this)).trans this
        have y2 : wr.cell? ⟨ad2.block, ad2.off + 2, none⟩ = some (.string e.f2) := by
         have := hcc2 2 _ rfl; rw [add_field _ _ 2 (by omega), Nat.zero_mul, Addr.add_zero'] at this; exact (hbel.cell (World.block_lt_of_cell? w _ this)).trans this
        have HD := Aside0.mk (And.intro hd1 hd2); have hxp := HRD.out.2.2.1; have hxpi : (0 : Int) < (xl.length : Int) := by omega
        -- the rest of the list
        obtain ⟨i026, hi026, _, hsz26, _⟩ := info_parts info26; have hcut0 := cut_from (P := Try.prog) 34 26 .i64 Try.underlying34 hi026 3 hsz26 (some ad2) xl.length xc 1 (by decide) (by omega); have hfc := Kd.F_cut (m := 1) (c := xc) HXF.out (by omega) HRD.out.1; rw [show (1 : Int).toNat = 1 from rfl] at hcut0; have hk3 : k26.sz = 3 := rfl; rw [hk3] at hfc; obtain ⟨xB, hxB⟩ : ∃ q, (if xc = 1 then some ad2 else Option.map (fun x => x.add (1 * 3)) (some ad2)) = q := ⟨_, rfl⟩; rw [hxB] at hcut0 hfc; have hdt : xl.drop 1 = t := by rw [hxl]; rfl
        rw [hdt] at hfc; obtain ⟨xm, hxm⟩ : ∃ q, xl.length - 1 = q := ⟨_, rfl⟩; obtain ⟨xd, hxd⟩ : ∃ q, xc - 1 = q := ⟨_, rfl⟩; have hxt : xm = t.length := by rw [← hxm, hxl]; rfl
        rw [hxm, hxd] at hcut0; have HRT : Aside0 (t ≠ [] → RdL w ⟨xB, xm, xd, t⟩) := ⟨fun ht => ⟨hxt, by show xm ≤ xd; have := HRD.out.1; omega, Kd.F_now hfc, List.length_pos_iff.2 ht, fun z hz => HRD.out.2.2.2 z (by rw [hxl]; exact List.mem_cons_of_mem _ hz)⟩⟩; have HFT := Aside0.mk hfc; have HXM := Aside0.mk hxt; have HLT := Aside0.mk hlt; have hltb : decide ((out.length : Int) < a1) = true := decide_eq_true hlt; have HLENT : Aside0 (∀ out2 : List B.Ent, out2.length ≤ out.length + 1 → out2.length ≤ a1.toNat) := ⟨fun o2 h2 => by have := HLT.out; omega⟩; clear hS0 hge hK hcl hcc hcc2 hbel hd1 hd2 hi026 hsz26 hfc hk3 hxB hdt hxm hxd hxt hlt hxl; have hw1 : IntKind.i64.wrap ((out.length : Int) - 1) = (out.length : Int) - 1 := by have := HOL.out; rw [IntKind.wrap_i64]; omega
        obtain ⟨m, hm⟩ : ∃ m, out.length = m := ⟨_, rfl⟩; rw [hm] at hltb hw1 ⊢; have HM := Aside0.mk hm; by_cases hm0 : m = 0
        ·subst hm0; obtain rfl := List.length_eq_zero_iff.1 hm; have hlt0 : decide ((0 : Int) < a1) = true := hltb; clear hw1 hm hltb; go_upto_region 15 with (fail)
         have HI4 := Aside0.mk (HST.out.inv.below (below_drew (Below.refl _ _))); have HO4 := Aside0.mk (HST.out.o.below (below_drew (Below.refl _ _))); have z0 : wr.drew.cell? _ = _ := y0; have z1 : wr.drew.cell? _ = _ := y1; have z2 : wr.drew.cell? _ = _ := y2; refine start_ (n := 16) (S := fun w' => True) (ds := []) #[N_,N_,N_,N_,N_,N_,N_,N_,N_,N_,N_,N_,N_,N_,N_,N_] (by kernel_rfl) rfl rfl trivial (fun hHeld => ?_); refine with_tabW merge_All.tab15 merge_All.bits15 (fun HT_ HW_ => ?_); clear y0 y1 y2; generalize wr.drew = w4 at HI4 HO4 z0 z1 z2 ⊢; refine qY 0 54 HT_.out ?_; refine qY 1 55 HT_.out ?_; refine qY 2 56 HT_.out ?_; refine qY 3 57 HT_.out ?_; refine pS 4 58 #[J_,J_,J_,J_,J_,N_,N_,N_,N_,N_,N_,N_,N_,N_,N_,N_] HT_.out ?_; refine pS 5 59 #[J_,J_,J_,J_,J_,J_,N_,N_,N_,N_,N_,N_,N_,N_,N_,N_] HT_.out ?_; refine pS 6 60 #[J_,J_,J_,J_,J_,J_,J_,N_,N_,N_,N_,N_,N_,N_,N_,N_] HT_.out ?_; refine pS 7 61 #[J_,J_,J_,J_,J_,J_,J_,J_,N_,N_,N_,N_,N_,N_,N_,N_] HT_.out ?_; refine pS 8 62 #[J_,J_,J_,J_,J_,J_,J_,J_,J_,N_,N_,N_,N_,N_,N_,N_] HT_.out ?_; refine pS 9 63 #[J_,J_,J_,J_,J_,J_,J_,J_,J_,J_,N_,N_,N_,N_,N_,N_] HT_.out ?_; refine pS 10 64 #[J_,J_,J_,J_,J_,J_,J_,J_,J_,J_,J_,N_,N_,N_,N_,N_] HT_.out ?_; refine pS 11 65 #[J_,J_,J_,J_,J_,J_,J_,J_,J_,J_,J_,J_,N_,N_,N_,N_] HT_.out ?_; refine pS 12 66 #[J_,J_,J_,J_,J_,J_,J_,J_,J_,J_,J_,J_,J_,N_,N_,N_] HT_.out ?_; refine pS 13 67 #[J_,J_,J_,J_,J_,J_,J_,J_,J_,J_,J_,J_,J_,J_,N_,N_] HT_.out ?_; refine pS 14 68 #[J_,J_,J_,J_,J_,J_,J_,J_,J_,J_,J_,J_,J_,J_,J_,N_] HT_.out ?_; refine qY 15 69 HT_.out ?_; refine done_ (done_of HT_.out (by kernel_rfl)) ?_; have hP1 : Aside0 (Kd.FK k26 w4 (fun k_ => P2_ k_ ∧ k_ < w.heap.size) e [.int .i64 e.f0, .slice A1 e.f1.length d1, .string e.f2]) := ⟨Kd.FK_step (Kd.FK_bound HFK.out) (fun k hk hlt => HI4.out.env.bel.block k hlt)⟩
         have hP2 : Aside0 (∀ k, (P2_ k ∧ k < w.heap.size) → OkM P2_ w.heap.size g row k ∧ some k ≠ (Value.slice Ao 0 co).ownBlock) := ⟨fun k hk => ⟨.inl hk, fun e_ => by
          have h1 := Kd.N_base HO4.out k e_.symm; have h2 := HI4.out.le.1; have h3 := hk.2; exact absurd (Nat.lt_of_lt_of_le h3 (Nat.le_trans h2 h1)) (Nat.lt_irrefl _)⟩⟩
         have hP3 : Aside0 (∀ k, (w4).heap.size ≤ k → OkM P2_ w.heap.size g row k) := ⟨OkM.fresh HI4.out.le.2 (fun k hk => (HI4.out.hs.row_ k hk).2.1) HI4.out.env.bel.size⟩; have hP4 : Aside0 (g ≤ (w4).heap.size) := ⟨Nat.le_of_lt HI4.out.le.2⟩; have hP5 : Aside0 ((([] : List S26).length + 1) * 48 ≤ 140737488355328) := ⟨merge_All.len48 HOL.out⟩; go_upto_region 17 with ((with_reducible refine gate_builtin (b := .append) (xs := #[.tmp 70, .tmp 74]) rfl ?_); at_builtin; refine Kd.N_append k26 (w0 := w4) g rfl (.tmp 70) (.tmp 74) 34 26 (.agg #[(.int .i64 0), (.slice none 0 0), (.string ⟨#[]⟩)]) 48 rfl Try.underlying34 info26 rfl (by decide) (by omega) (.slice Ao 0 co) [] e [.int .i64 e.f0, .slice A1 e.f1.length d1, .string e.f2] (OkM P2_ w.heap.size g row) (fun k_ => P2_ k_ ∧ k_ < w.heap.size) rfl rfl ?aP ?aQ ?aF ?aO ?aB ?aS ?aL ?_; (case aP => exact hP1.out); (case aQ => exact hP2.out); (case aF => exact hP3.out); (case aO => exact HO4.out); (case aB => exact Below.refl _ _); (case aS => exact hP4.out); (case aL => exact hP5.out); intro v5 w5 ho hb hg hat; have HO5 := Aside0.mk ho; have HG5 := Aside0.mk hg; clear ho hb hg hat)
         have HI5 : Aside0 (AInv a0 P2_ w w5 g gc row M came) := ⟨HI4.out.grown HG5.out (fun k hk => by
          have h1 := HO4.out.1 k hk; have h2 := Kd.N_base HO4.out k hk; have h3 := HI4.out.le.1; rcases h1 with h1 | h1
          ·exact absurd (Nat.lt_of_lt_of_le h1.2 (Nat.le_trans h3 h2)) (Nat.lt_irrefl _)
          ·exact ⟨h1.1, h1.2.1, h1.2.2, h2⟩)⟩
         have HO5 : Aside0 (Out P2_ w.heap.size w5 g row v5 ([] ++ [e])) := HO5; clear HI4 HO4 HG5 hP1 hP2 hP3 hP4 hP5; have HSTP := Aside0.mk (HS0.out.step (x := ⟨some ad2, xl.length, xc, xl⟩) (out2 := [] ++ [e]) HXL.out HL.out (.inl ⟨rfl, fun o ho => by simp at ho⟩) (HLENT.out _ (by simp)) HI5.out HO5.out); have hfl := HSTP.out.1
         have HGK : Aside0 ((if t = [] then lsOf M else t :: lsOf M).flatten.length < gk) := ⟨by
          have h1 := HLE.out; rw [HREM.out] at h1; exact Nat.lt_of_lt_of_le (Nat.lt_of_lt_of_le (Nat.lt_succ_self _) (Nat.le_of_eq hfl)) h1⟩
         have HCB := Aside0.mk (cb_of hfl HS0.out.cb); have hS5 := HSTP.out.2; have hgk := HGK.out; have hcb := HCB.out; clear hfl HSTP HGK HCB HI5 HO5 HS0 HST HLE; by_cases ht : t = []
         ·rw [if_pos ht] at hS5 hgk; have HS5 := Aside0.mk hS5; have HG := Aside0.mk hgk; have hxm0 : xm = 0 := by rw [HXM.out, ht]; rfl
          clear hcb hS5 hgk HXM HRT HFT; subst hxm0; have hg0 : decide (((0 : Nat) : Int) > 0) = false := by decide
          by_cases hM0 : M.length = 0
          ·have HM0 := Aside0.mk hM0; clear hM0; go_wp2_with (go_at_call 30; (with_reducible refine (HS5.out.inv.pop0 HM0.out).mono ?_); rintro e6 w6 ⟨rfl, rfl⟩)
           go_roundg (lsOf M).flatten.length
           case measure => exact HG.out
           case rel => exact ⟨HS5.out.pop0 HM0.out (Nat.le_refl _)⟩
          ·have HM0 := Aside0.mk (Nat.pos_of_ne_zero hM0); clear hM0; go_wp2_with (go_at_call 30; (with_reducible refine (HS5.out.inv.pop HM0.out HS5.out.m2).mono ?_); rintro e6 w6 ⟨rfl, hI6, hT6⟩; have HI6 := Aside0.mk hI6; have HT6 := Aside0.mk hT6; clear hI6 hT6)
           go_roundg (lsOf M).flatten.length
           case measure => exact HG.out
           case rel => exact ⟨HS5.out.pop1 HM0.out (Nat.le_refl _) HI6.out HT6.out⟩
         ·rw [if_neg ht] at hS5 hgk hcb; have HS5 := Aside0.mk hS5; have HG := Aside0.mk hgk; have HCB := Aside0.mk hcb; have hxm1 : 0 < xm := HXM.out ▸ List.length_pos_iff.2 ht; have hg0 : decide ((xm : Int) > 0) = true := decide_eq_true (Int.natCast_pos.2 hxm1); have hg1 : decide (0 < xm) = true := decide_eq_true hxm1; have HPU := Aside0.mk (hS5.inv.push ⟨xB, xm, xd, t⟩ (HRT.out ht) HFT.out hS5.c0 hS5.c1 hS5.m1); dsimp only at HPU; have HM6 := Aside0.mk (push_pos a0 M (mk91 ⟨xB, xm, xd, t⟩ came) hS5.inv.hp); clear hcb hS5 hgk HRT HFT HXM ht hxm1; go_wp2_with (first | (go_at_call 29; (with_reducible refine HPU.out.mono ?_); rintro e6 w6 ⟨rfl, row6, hI6, hT6⟩; have HS6 := Aside0.mk (HS5.out.push (x := ⟨xB, xm, xd, t⟩) HCB.out hI6 hT6); clear hI6 hT6) | (go_at_call 30; (with_reducible refine (HS6.out.2.inv.pop HM6.out HS6.out.2.m2).mono ?_); rintro e7 w7 ⟨rfl, hI7, hT7⟩; have HI7 := Aside0.mk hI7; have HT7 := Aside0.mk hT7; clear hI7 hT7))
          go_roundg (lsOf (pushF (ahG91 a0) M (mk91 ⟨xB, xm, xd, t⟩ came))).flatten.length
          case measure => exact HS6.out.1 ▸ HG.out
          case rel => exact ⟨HS6.out.2.pop1 HM6.out (Nat.le_refl _) HI7.out HT7.out⟩
        ·obtain ⟨q, hq⟩ := Nat.exists_eq_succ_of_ne_zero hm0; clear hw1; obtain ⟨hw1, hm0b, hqm, hq0, hqn⟩ := q_facts hq (hm ▸ HOL.out); obtain ⟨hlast, hmem⟩ := last_of hm hq; have hCo := (Kd.N_reads' HST.out.o).2.2; obtain ⟨ad, A0, c0, rfl, x0, x1, x2, l0, g0⟩ := at_T26 hCo (q : Int) hq0 (by rw [hm]; exact hqm); rw [Int.toNat_natCast] at x0 x1 x2
         have hoko : B.okE (rd_T26 out (q : Int)) := by
          obtain ⟨l, hl, hol⟩ := List.mem_flatten.1 ((HST.out.m.mem _).2 (.inl hmem)); exact HF3.out l hl _ hol
         generalize rd_T26 out (q : Int) = o at x0 x1 x2 l0 g0 hlast hoko; obtain ⟨b, hb⟩ : ∃ b, (B.ordE o e == 0) = b := ⟨_, rfl⟩; obtain ⟨ks, hks⟩ := ev_at (B.sameE_ev o e hoko); rw [hb] at hks; have HLAST := Aside0.mk hlast; have HBE := Aside0.mk hb; have HKS := Aside0.mk hks; have HL0 := Aside0.mk l0; have HG0 := Aside0.mk (Kd.C_below g0 (below_drew (Below.refl _ _))); have HX := Aside0.mk (And.intro x0 (And.intro x1 x2)); clear hm0 hlast hb hks l0 g0 hoko hmem hCo hq hm x0 x1 x2; go_upto_region 15 with (fail)
         have HI4 := Aside0.mk (HST.out.inv.below (below_drew (Below.refl _ _))); have HO4 := Aside0.mk (HST.out.o.below (below_drew (Below.refl _ _))); rw [HM.out] at HO4; have hst : wr.drew.cell? (ad.add (q * 3)) = some (.int .i64 o.f0) ∧ wr.drew.cell? ⟨(ad.add (q * 3)).block, (ad.add (q * 3)).off + 1, none⟩ = some (.slice A0 o.f1.length c0) ∧ wr.drew.cell? ⟨(ad.add (q * 3)).block, (ad.add (q * 3)).off + 2, none⟩ = some (.string o.f2) ∧ wr.drew.cell? ad2 = some (.int .i64 e.f0) ∧ wr.drew.cell? ⟨ad2.block, ad2.off + 1, none⟩ = some (.slice A1 e.f1.length d1) ∧ wr.drew.cell? ⟨ad2.block, ad2.off + 2, none⟩ = some (.string e.f2) := ⟨HX.out.1, HX.out.2.1, HX.out.2.2, y0, y1, y2⟩; refine start_ (n := 16) (S := fun w' => w'.cell? (ad.add (q * 3)) = some (.int .i64 o.f0) ∧ w'.cell? ⟨(ad.add (q * 3)).block, (ad.add (q * 3)).off + 1, none⟩ = some (.slice A0 o.f1.length c0) ∧ w'.cell? ⟨(ad.add (q * 3)).block, (ad.add (q * 3)).off + 2, none⟩ = some (.string o.f2) ∧ w'.cell? ad2 = some (.int .i64 e.f0) ∧ w'.cell? ⟨ad2.block, ad2.off + 1, none⟩ = some (.slice A1 e.f1.length d1) ∧ w'.cell? ⟨ad2.block, ad2.off + 2, none⟩ = some (.string e.f2)) (ds := []) #[N_,N_,N_,N_,N_,N_,N_,N_,N_,N_,N_,N_,N_,N_,N_,N_] (by kernel_rfl) rfl rfl hst (fun hHeld => ?_); refine with_tabW merge_All.tab15 merge_All.bits15 (fun HT_ HW_ => ?_); clear y0 y1 y2 HX; generalize wr.drew = w4 at HI4 HO4 HG0 hHeld hst ⊢; clear hst; refine qY 0 54 HT_.out ?_; refine qY 1 55 HT_.out ?_; refine qY 2 56 HT_.out ?_; refine qY 3 57 HT_.out ?_; refine qY 4 58 HT_.out ?_; refine qY 5 59 HT_.out ?_; refine qY 6 60 HT_.out ?_; refine qY 7 61 HT_.out ?_; refine qY 8 62 HT_.out ?_; refine qY 10 64 HT_.out ?_; refine qY 11 65 HT_.out ?_; refine tY 9 63 HT_.out HW_.out hHeld ?_; refine tY 12 66 HT_.out HW_.out hHeld ?_; refine one_ (i := 13) (N := some 67) #[J_,J_,J_,J_,J_,J_,J_,J_,J_,J_,J_,J_,J_,J_,N_,N_] rfl rfl (one_of HT_.out (by kernel_rfl)) (by decide) (fun K hK => ?_); have hen := enters_ Try.func22 (by kernel_rfl) rfl #[.agg #[.int .i64 o.f0, .slice A0 o.f1.length c0, .string o.f2], .agg #[.int .i64 e.f0, .slice A1 e.f1.length d1, .string e.f2]] w4; refine call_ 22 #[.agg #[.int .i64 o.f0, .slice A0 o.f1.length c0, .string o.f2], .agg #[.int .i64 e.f0, .slice A1 e.f1.length d1, .string e.f2]] (by rfl) rfl (by unfold execOp; simp [resolve, Deferred.ofValue, invoke, Act.eval, hen]) ?_; clear hen; refine (entry_Same.calls ks o.f0 A0 c0 o.f1 o.f2 e.f0 A1 d1 e.f1 e.f2 b w4 HG0.out HL0.out (Kd.C_below (Kd.F_now HD.out.2) HI4.out.env.bel) HD.out.1 HKS.out).mono ?_; rintro e_ w8 ⟨rfl, hb_⟩; have HI8 := Aside0.mk (HI4.out.below hb_); have HO8 := Aside0.mk (HO4.out.below hb_); refine ⟨_, rfl, ?_⟩; refine hK.out _ _ (merge_All.keep hHeld hb_) (fun hHeld => ?_); clear hK K hb_ HI4 HO4; refine norm_ (a' := ?_) ?_ ?_; rotate_left
         ·show Act.put _ (some 67) _ = _; simp only [Act.put, List.setIfInBounds_toArray, List.set_cons_zero, List.set_cons_succ, i64_w, i32_w]; rfl
         have HI4 := HI8; have HO4 := HO8; clear HI8 HO8; obtain ⟨s0, s1, s2, z0, z1, z2⟩ := hHeld; clear s0 s1 s2 hm0b hqm hq0 hqn hw1; cases b with
         | false =>
          refine qY 14 68 HT_.out ?_; refine qY 15 69 HT_.out ?_; refine done_ (done_of HT_.out (by kernel_rfl)) ?_; have hP1 : Aside0 (Kd.FK k26 w8 (fun k_ => P2_ k_ ∧ k_ < w.heap.size) e [.int .i64 e.f0, .slice A1 e.f1.length d1, .string e.f2]) := ⟨Kd.FK_step (Kd.FK_bound HFK.out) (fun k hk hlt => HI4.out.env.bel.block k hlt)⟩
          have hP2 : Aside0 (∀ k, (P2_ k ∧ k < w.heap.size) → OkM P2_ w.heap.size g row k ∧ some k ≠ (Value.slice (some ad) m co).ownBlock) := ⟨fun k hk => ⟨.inl hk, fun e_ => by
           have h1 := Kd.N_base HO4.out k e_.symm; have h2 := HI4.out.le.1; have h3 := hk.2; exact absurd (Nat.lt_of_lt_of_le h3 (Nat.le_trans h2 h1)) (Nat.lt_irrefl _)⟩⟩
          have hP3 : Aside0 (∀ k, (w8).heap.size ≤ k → OkM P2_ w.heap.size g row k) := ⟨OkM.fresh HI4.out.le.2 (fun k hk => (HI4.out.hs.row_ k hk).2.1) HI4.out.env.bel.size⟩; have hP4 : Aside0 (g ≤ (w8).heap.size) := ⟨Nat.le_of_lt HI4.out.le.2⟩; have hP5 : Aside0 (((out : List S26).length + 1) * 48 ≤ 140737488355328) := ⟨merge_All.len48 HOL.out⟩; go_upto_region 17 with ((with_reducible refine gate_builtin (b := .append) (xs := #[.tmp 70, .tmp 74]) rfl ?_); at_builtin; refine Kd.N_append k26 (w0 := w8) g rfl (.tmp 70) (.tmp 74) 34 26 (.agg #[(.int .i64 0), (.slice none 0 0), (.string ⟨#[]⟩)]) 48 rfl Try.underlying34 info26 rfl (by decide) (by omega) (.slice (some ad) m co) out e [.int .i64 e.f0, .slice A1 e.f1.length d1, .string e.f2] (OkM P2_ w.heap.size g row) (fun k_ => P2_ k_ ∧ k_ < w.heap.size) rfl rfl ?aP ?aQ ?aF ?aO ?aB ?aS ?aL ?_; (case aP => exact hP1.out); (case aQ => exact hP2.out); (case aF => exact hP3.out); (case aO => exact HO4.out); (case aB => exact Below.refl _ _); (case aS => exact hP4.out); (case aL => exact hP5.out); intro v5 w5 ho hb hg hat; have HO5 := Aside0.mk ho; have HG5 := Aside0.mk hg; clear ho hb hg hat)
          have HI5 : Aside0 (AInv a0 P2_ w w5 g gc row M came) := ⟨HI4.out.grown HG5.out (fun k hk => by
           have h1 := HO4.out.1 k hk; have h2 := Kd.N_base HO4.out k hk; have h3 := HI4.out.le.1; rcases h1 with h1 | h1
           ·exact absurd (Nat.lt_of_lt_of_le h1.2 (Nat.le_trans h3 h2)) (Nat.lt_irrefl _)
           ·exact ⟨h1.1, h1.2.1, h1.2.2, h2⟩)⟩
          have HO5 : Aside0 (Out P2_ w.heap.size w5 g row v5 (out ++ [e])) := HO5; clear HI4 HO4 HG5 hP1 hP2 hP3 hP4 hP5
          have hne : ∀ o', out.getLast? = some o' → o' ≠ e := fun o' ho' h => by
           rw [HLAST.out] at ho'; injection ho' with ho'; have h1 := HBE.out; rw [ho', h, (B.ordE_stands.eq e e).2 rfl] at h1; cases h1
          have HSTP := Aside0.mk (HS0.out.step (x := ⟨some ad2, xl.length, xc, xl⟩) (out2 := out ++ [e]) HXL.out HL.out (.inl ⟨rfl, hne⟩) (HLENT.out _ (by simp)) HI5.out HO5.out); clear hne; have hfl := HSTP.out.1
          have HGK : Aside0 ((if t = [] then lsOf M else t :: lsOf M).flatten.length < gk) := ⟨by
           have h1 := HLE.out; rw [HREM.out] at h1; exact Nat.lt_of_lt_of_le (Nat.lt_of_lt_of_le (Nat.lt_succ_self _) (Nat.le_of_eq hfl)) h1⟩
          have HCB := Aside0.mk (cb_of hfl HS0.out.cb); have hS5 := HSTP.out.2; have hgk := HGK.out; have hcb := HCB.out; clear hfl HSTP HGK HCB HI5 HO5 HS0 HST HLE; by_cases ht : t = []
          ·rw [if_pos ht] at hS5 hgk; have HS5 := Aside0.mk hS5; have HG := Aside0.mk hgk; have hxm0 : xm = 0 := by rw [HXM.out, ht]; rfl
           clear hcb hS5 hgk HXM HRT HFT; subst hxm0; have hg0 : decide (((0 : Nat) : Int) > 0) = false := by decide
           by_cases hM0 : M.length = 0
           ·have HM0 := Aside0.mk hM0; clear hM0; go_wp2_with (go_at_call 30; (with_reducible refine (HS5.out.inv.pop0 HM0.out).mono ?_); rintro e6 w6 ⟨rfl, rfl⟩)
            go_roundg (lsOf M).flatten.length
            case measure => exact HG.out
            case rel => exact ⟨HS5.out.pop0 HM0.out (Nat.le_refl _)⟩
           ·have HM0 := Aside0.mk (Nat.pos_of_ne_zero hM0); clear hM0; go_wp2_with (go_at_call 30; (with_reducible refine (HS5.out.inv.pop HM0.out HS5.out.m2).mono ?_); rintro e6 w6 ⟨rfl, hI6, hT6⟩; have HI6 := Aside0.mk hI6; have HT6 := Aside0.mk hT6; clear hI6 hT6)
            go_roundg (lsOf M).flatten.length
            case measure => exact HG.out
            case rel => exact ⟨HS5.out.pop1 HM0.out (Nat.le_refl _) HI6.out HT6.out⟩
          ·rw [if_neg ht] at hS5 hgk hcb; have HS5 := Aside0.mk hS5; have HG := Aside0.mk hgk; have HCB := Aside0.mk hcb; have hxm1 : 0 < xm := HXM.out ▸ List.length_pos_iff.2 ht; have hg0 : decide ((xm : Int) > 0) = true := decide_eq_true (Int.natCast_pos.2 hxm1); have hg1 : decide (0 < xm) = true := decide_eq_true hxm1; have HPU := Aside0.mk (hS5.inv.push ⟨xB, xm, xd, t⟩ (HRT.out ht) HFT.out hS5.c0 hS5.c1 hS5.m1); dsimp only at HPU; have HM6 := Aside0.mk (push_pos a0 M (mk91 ⟨xB, xm, xd, t⟩ came) hS5.inv.hp); clear hcb hS5 hgk HRT HFT HXM ht hxm1; go_wp2_with (first | (go_at_call 29; (with_reducible refine HPU.out.mono ?_); rintro e6 w6 ⟨rfl, row6, hI6, hT6⟩; have HS6 := Aside0.mk (HS5.out.push (x := ⟨xB, xm, xd, t⟩) HCB.out hI6 hT6); clear hI6 hT6) | (go_at_call 30; (with_reducible refine (HS6.out.2.inv.pop HM6.out HS6.out.2.m2).mono ?_); rintro e7 w7 ⟨rfl, hI7, hT7⟩; have HI7 := Aside0.mk hI7; have HT7 := Aside0.mk hT7; clear hI7 hT7))
           go_roundg (lsOf (pushF (ahG91 a0) M (mk91 ⟨xB, xm, xd, t⟩ came))).flatten.length
           case measure => exact HS6.out.1 ▸ HG.out
           case rel => exact ⟨HS6.out.2.pop1 HM6.out (Nat.le_refl _) HI7.out HT7.out⟩
         | true =>
          refine qY 14 68 HT_.out ?_; refine qY 15 69 HT_.out ?_; refine done_ (done_of HT_.out (by kernel_rfl)) ?_; have HI5 := HI4; have HO5 := HO4; clear HI4 HO4
          have hoe : out.getLast? = some e := by
           have h1 := (B.ordE_stands.eq o e).1 (beq_iff_eq.1 HBE.out); rw [HLAST.out, h1]
          have HSTP := Aside0.mk (HS0.out.step (x := ⟨some ad2, xl.length, xc, xl⟩) (out2 := out) HXL.out HL.out (.inr ⟨rfl, hoe⟩) (HLENT.out _ (Nat.le_succ _)) HI5.out HO5.out); clear hoe; have hfl := HSTP.out.1
          have HGK : Aside0 ((if t = [] then lsOf M else t :: lsOf M).flatten.length < gk) := ⟨by
           have h1 := HLE.out; rw [HREM.out] at h1; exact Nat.lt_of_lt_of_le (Nat.lt_of_lt_of_le (Nat.lt_succ_self _) (Nat.le_of_eq hfl)) h1⟩
          have HCB := Aside0.mk (cb_of hfl HS0.out.cb); have hS5 := HSTP.out.2; have hgk := HGK.out; have hcb := HCB.out; clear hfl HSTP HGK HCB HI5 HO5 HS0 HST HLE; by_cases ht : t = []
          ·rw [if_pos ht] at hS5 hgk; have HS5 := Aside0.mk hS5; have HG := Aside0.mk hgk; have hxm0 : xm = 0 := by rw [HXM.out, ht]; rfl
           clear hcb hS5 hgk HXM HRT HFT; subst hxm0; have hg0 : decide (((0 : Nat) : Int) > 0) = false := by decide
           by_cases hM0 : M.length = 0
           ·have HM0 := Aside0.mk hM0; clear hM0; go_wp2_with (go_at_call 30; (with_reducible refine (HS5.out.inv.pop0 HM0.out).mono ?_); rintro e6 w6 ⟨rfl, rfl⟩)
            go_roundg (lsOf M).flatten.length
            case measure => exact HG.out
            case rel => exact ⟨HS5.out.pop0 HM0.out (Nat.le_refl _)⟩
           ·have HM0 := Aside0.mk (Nat.pos_of_ne_zero hM0); clear hM0; go_wp2_with (go_at_call 30; (with_reducible refine (HS5.out.inv.pop HM0.out HS5.out.m2).mono ?_); rintro e6 w6 ⟨rfl, hI6, hT6⟩; have HI6 := Aside0.mk hI6; have HT6 := Aside0.mk hT6; clear hI6 hT6)
            go_roundg (lsOf M).flatten.length
            case measure => exact HG.out
            case rel => exact ⟨HS5.out.pop1 HM0.out (Nat.le_refl _) HI6.out HT6.out⟩
          ·rw [if_neg ht] at hS5 hgk hcb; have HS5 := Aside0.mk hS5; have HG := Aside0.mk hgk; have HCB := Aside0.mk hcb; have hxm1 : 0 < xm := HXM.out ▸ List.length_pos_iff.2 ht; have hg0 : decide ((xm : Int) > 0) = true := decide_eq_true (Int.natCast_pos.2 hxm1); have hg1 : decide (0 < xm) = true := decide_eq_true hxm1; have HPU := Aside0.mk (hS5.inv.push ⟨xB, xm, xd, t⟩ (HRT.out ht) HFT.out hS5.c0 hS5.c1 hS5.m1); dsimp only at HPU; have HM6 := Aside0.mk (push_pos a0 M (mk91 ⟨xB, xm, xd, t⟩ came) hS5.inv.hp); clear hcb hS5 hgk HRT HFT HXM ht hxm1; go_wp2_with (first | (go_at_call 29; (with_reducible refine HPU.out.mono ?_); rintro e6 w6 ⟨rfl, row6, hI6, hT6⟩; have HS6 := Aside0.mk (HS5.out.push (x := ⟨xB, xm, xd, t⟩) HCB.out hI6 hT6); clear hI6 hT6) | (go_at_call 30; (with_reducible refine (HS6.out.2.inv.pop HM6.out HS6.out.2.m2).mono ?_); rintro e7 w7 ⟨rfl, hI7, hT7⟩; have HI7 := Aside0.mk hI7; have HT7 := Aside0.mk hT7; clear hI7 hT7))
           go_roundg (lsOf (pushF (ahG91 a0) M (mk91 ⟨xB, xm, xd, t⟩ came))).flatten.length
           case measure => exact HS6.out.1 ▸ HG.out
           case rel => exact ⟨HS6.out.2.pop1 HM6.out (Nat.le_refl _) HI7.out HT7.out⟩
       ·have hltb : decide ((out.length : Int) < a1) = false := decide_eq_false hlt
        have hr1 : out = r1 ∧ true = r2 := by
         have h1 := HRES.out; have h2 := HST.out.m.cut (totE a0); have h3 := HST.out.len; rw [show a1.toNat = out.length by omega, h2] at h1; injection h1 with h1 h4; exact ⟨h1, h4⟩
        obtain ⟨rfl, rfl⟩ := hr1; have HBE := Aside0.mk HST.out.inv.env.bel
        have HNE : Aside0 (Kd.N k26 26 wr w.heap.size (fun k_ => (P2_ k_ ∨ w.heap.size ≤ k_)) (.slice Ao out.length co) out) := ⟨Kd.N_mono (Kd.N_lower HST.out.o HST.out.inv.le.1) (fun k hk => by
         rcases hk with hk | hk
         ·exact .inl hk.1
         ·exact .inr hk.1)⟩
        clear hlt; go_wp2
        go_ret2
        exact ⟨_, rfl, HNE.out, HBE.out⟩
 ·rw [if_neg hfit] at h; cases h

/-! ### merge_First: function 14 -/
def merge_First.f (k : Nat) (a0 : Bool) (l1 : List S26) : Option (Int × List S103 × ByteArray × Bool) := if fitE l1 then some ((firstE a0 l1).f0, (firstE a0 l1).f1, (firstE a0 l1).f2, !l1.isEmpty) else none
theorem merge_First.mono : ∀ a0 l1 k, LeO (merge_First.f k a0 l1) (merge_First.f (k + 1) a0 l1) := fun _ _ _ => LeO.refl _
set_option maxHeartbeats 1000000 in
set_option maxRecDepth 1000000 in
/-- what stands behind New: a look at the first one -/
theorem merge_First.calls (k : Nat) (a0 : Bool) (P1_ : Nat → Prop) (A1 : Option Addr) (c1 : Nat) (l1 : List S26) (r1 : Int) (r2 : List S103) (r3 : ByteArray) (r4 : Bool) (w : World) (hs1 : Kd.V k26 26 w w.heap.size (fun k_ => P1_ k_) (.slice A1 l1.length c1) l1) (h : merge_First.f k a0 l1 = some (r1, r2, r3, r4)) :
  Calls Try.prog 14 #[.bool a0, .slice A1 l1.length c1] w fun e w' => ∃ v1_ : Value, e = .returned (.tuple #[.agg #[.int .i64 r1, v1_, .string r3], .bool r4]) ∧ Kd.V k103 103 w' w.heap.size (fun k_ => (P1_ k_ ∨ w.heap.size ≤ k_)) v1_ r2 ∧ Below w.heap.size w w' := by
 obtain ⟨_, hc1, hF⟩ := Kd.V_at hs1; unfold merge_First.f at h; by_cases hfit : fitE l1
 ·rw [if_pos hfit] at h; injection h with h; simp only [Prod.mk.injEq] at h; obtain ⟨rfl, rfl, rfl, rfl⟩ := h; obtain ⟨xs, hxe, hxC, hxr⟩ := heads hF; obtain ⟨n, hn⟩ : ∃ n, l1.length = n := ⟨_, rfl⟩; have hxl : xs.length = n := by rw [← hn, ← hxe, List.length_map]
  have hn1 : n < 1000000 := hn ▸ hfit.1
  have hR : ∀ x ∈ xs, RdE w x := fun x hx => by
   obtain ⟨h1, h2, h3⟩ := hxr x hx; refine ⟨h1, h2, Kd.F_now h3, ?_⟩; have : x.e ∈ l1 := hxe ▸ List.mem_map.2 ⟨x, hx, rfl⟩; exact hfit.2 _ this
  have HB := Aside0.mk (below_alloc (Below.refl w.heap.size w) (.cells #[.int .i64 0, .slice none 0 0, .string ⟨#[]⟩] 26)); have HK := Aside0.mk (blk_new w (.cells #[.int .i64 0, .slice none 0 0, .string ⟨#[]⟩] 26)); have HRR := Aside0.mk hR; have HXR := Aside0.mk hxr; have HXC := Aside0.mk hxC; have HXL := Aside0.mk hxl; rw [hn]; by_cases h0 : n = 0
  ·subst h0; obtain rfl := List.length_eq_zero_iff.1 hn; obtain rfl := List.length_eq_zero_iff.1 hxl; clear hxe hxr hR hxl hxC hn hfit hF hs1 hc1 hn1; go_enter Try.func14, Try.ntmps14
   go_upto_region 1 with (fail)
   generalize hgb : w.heap.size = gb at HK ⊢; generalize w.alloc (.cells #[.int .i64 0, .slice none 0 0, .string ⟨#[]⟩] 26) = w1 at HB HK ⊢; have HGB := Aside0.mk hgb; clear hgb; have HB2 := Aside0.mk (HB.out.alloc HB.out.size (.cells #[.bool a0] 4)); have HN2 := Aside0.mk (new101_calls (asc := a0) (W0 := w) (gc := w1.heap.size) (w1.alloc (.cells #[.bool a0] 4)) A1 c1 [] (Kd.C_below HXC.out HB2.out) ⟨by simp, blk_new w1 _⟩ HB2.out (fun x hx => by simp at hx) (by decide)); rw [show ([] : List F26).length = 0 from rfl] at HN2; have HL0 := Aside0.mk (show (pushL (ahG101 a0) mk101 [] 0 []).length = 0 from rfl); have HK2 := Aside0.mk (blk_alloc HK.out (.cells #[.bool a0] 4)); have HSZ := Aside0.mk (show (w1.alloc (.cells #[.bool a0] 4)).heap.size = w1.heap.size + 1 by simp); clear HK; go_wp2_with (first | (go_at_call 25; (with_reducible refine (less_calls a0 _).mono ?_); rintro e w' ⟨rfl, rfl⟩) | (go_at_call 33; (with_reducible refine HN2.out.mono ?_); rintro e w3 ⟨rfl, row1, hS3, hb3⟩; have HS3 := Aside0.mk hS3; have HB3 := Aside0.mk hb3; clear hS3 hb3) | (go_at_call 34; have HP3 := Aside0.mk (peek101_none _ _ _ _ _ _ HS3.out HL0.out); rw [HSZ.out] at HP3; (with_reducible refine HP3.out.mono ?_); clear HP3; rintro e w4 ⟨rfl, hb4⟩; have HB4 := Aside0.mk (below_step HB3.out hb4); clear hb4; have HK4 := Aside0.mk (blk_below HK2.out HB4.out); have k0 : w4.cell? ⟨gb, 0, none⟩ = some (.int .i64 0) := (blk_cell HK4.out 0).trans rfl; have k1 : w4.cell? ⟨gb, 1, none⟩ = some (.slice none 0 0) := (blk_cell HK4.out 1).trans rfl; have k2 : w4.cell? ⟨gb, 2, none⟩ = some (.string ⟨#[]⟩) := (blk_cell HK4.out 2).trans rfl; have kf0 : w4.frozen? ⟨gb, 0, none⟩ = false := blk_frozen HK4.out 0; have kf1 : w4.frozen? ⟨gb, 1, none⟩ = false := blk_frozen HK4.out 1; have kf2 : w4.frozen? ⟨gb, 2, none⟩ = false := blk_frozen HK4.out 2))
   refine bodyPost_ret (results_list (rs := [.cell 4 26, .tmp 5]) rfl (by simp) (.cell gb 26 #[.int .i64 0, .slice none 0 0, .string ⟨#[]⟩] (0, 0) _ rfl (blk_put (blk_put (blk_put HK4.out 0 _ rfl) 1 _ rfl) 2 _ rfl) Try.underlying26 rfl (by kernel_rfl) (.tmp .nil))) rfl ?_; have hle := Nat.le_of_eq HGB.out; exact ⟨.slice none 0 0, rfl, Kd.V_nil _ _ _ _ _, (((HB2.out.trans (HB4.out.mono HB2.out.size)).setCell (p := ⟨gb, 0, none⟩) hle _).setCell (p := ⟨gb, 1, none⟩) hle _).setCell (p := ⟨gb, 2, none⟩) hle _⟩
  ·obtain ⟨hp1, hp2, hp3⟩ := heap_first a0 xs (by omega); rw [hxe] at hp3; obtain ⟨hx1, hx2, hx3⟩ := hxr _ hp2; rw [← hp3, show (!l1.isEmpty) = true by cases l1 with | nil => exact absurd hn.symm h0 | cons a t => rfl]; have HL := Aside0.mk hp1; have HV := Aside0.mk (And.intro hx1 (And.intro hx2 hx3)); clear hxe hxr hR hxl hxC hn hfit hF hs1 hc1 hp1 hp2 hp3 hx1 hx2 hx3; go_enter Try.func14, Try.ntmps14
   go_upto_region 1 with (fail)
   generalize hgb : w.heap.size = gb at HK ⊢; generalize w.alloc (.cells #[.int .i64 0, .slice none 0 0, .string ⟨#[]⟩] 26) = w1 at HB HK ⊢; have HGB := Aside0.mk hgb; clear hgb; have HB2 := Aside0.mk (HB.out.alloc HB.out.size (.cells #[.bool a0] 4)); have HN2 := Aside0.mk (new101_calls (asc := a0) (W0 := w) (gc := w1.heap.size) (w1.alloc (.cells #[.bool a0] 4)) A1 c1 xs (Kd.C_below HXC.out HB2.out) ⟨by simp, blk_new w1 _⟩ HB2.out HRR.out (by have := HXL.out; omega)); rw [HXL.out] at HN2; have HK2 := Aside0.mk (blk_alloc HK.out (.cells #[.bool a0] 4)); have HSZ := Aside0.mk (show (w1.alloc (.cells #[.bool a0] 4)).heap.size = w1.heap.size + 1 by simp); clear HK; go_wp2_with (first | (go_at_call 25; (with_reducible refine (less_calls a0 _).mono ?_); rintro e w' ⟨rfl, rfl⟩) | (go_at_call 33; (with_reducible refine HN2.out.mono ?_); rintro e w3 ⟨rfl, row1, hS3, hb3⟩; have HS3 := Aside0.mk hS3; have HB3 := Aside0.mk hb3; clear hS3 hb3) | (go_at_call 34; have HP3 := Aside0.mk (peek101_some _ _ _ _ _ _ HS3.out HL.out); rw [HSZ.out] at HP3; (with_reducible refine HP3.out.mono ?_); clear HP3; rintro e w4 ⟨rfl, hb4⟩; have HB4 := Aside0.mk (below_step HB3.out hb4); clear hb4; have HK4 := Aside0.mk (blk_below HK2.out HB4.out); have k0 : w4.cell? ⟨gb, 0, none⟩ = some (.int .i64 0) := (blk_cell HK4.out 0).trans rfl; have k1 : w4.cell? ⟨gb, 1, none⟩ = some (.slice none 0 0) := (blk_cell HK4.out 1).trans rfl; have k2 : w4.cell? ⟨gb, 2, none⟩ = some (.string ⟨#[]⟩) := (blk_cell HK4.out 2).trans rfl; have kf0 : w4.frozen? ⟨gb, 0, none⟩ = false := blk_frozen HK4.out 0; have kf1 : w4.frozen? ⟨gb, 1, none⟩ = false := blk_frozen HK4.out 1; have kf2 : w4.frozen? ⟨gb, 2, none⟩ = false := blk_frozen HK4.out 2))
   refine bodyPost_ret (results_list (rs := [.cell 4 26, .tmp 5]) rfl (by simp) (.cell gb 26 #[.int .i64 (hgt (pushL (ahG101 a0) mk101 [] 0 xs) 0).f0.t, .slice (hgt (pushL (ahG101 a0) mk101 [] 0 xs) 0).f0.h.A (hgt (pushL (ahG101 a0) mk101 [] 0 xs) 0).f0.h.n (hgt (pushL (ahG101 a0) mk101 [] 0 xs) 0).f0.h.c, .string (hgt (pushL (ahG101 a0) mk101 [] 0 xs) 0).f0.s] (0, 0) _ rfl (blk_put (blk_put (blk_put HK4.out 0 _ rfl) 1 _ rfl) 2 _ rfl) Try.underlying26 rfl (by kernel_rfl) (.tmp .nil))) rfl ?_; have hle := Nat.le_of_eq HGB.out; obtain ⟨hx1, hx2, hx3⟩ := HV.out; have hBB := (((HB2.out.trans (HB4.out.mono HB2.out.size)).setCell (p := ⟨gb, 0, none⟩) hle (.int .i64 (hgt (pushL (ahG101 a0) mk101 [] 0 xs) 0).f0.t)).setCell (p := ⟨gb, 1, none⟩) hle (.slice (hgt (pushL (ahG101 a0) mk101 [] 0 xs) 0).f0.h.A (hgt (pushL (ahG101 a0) mk101 [] 0 xs) 0).f0.h.n (hgt (pushL (ahG101 a0) mk101 [] 0 xs) 0).f0.h.c)).setCell (p := ⟨gb, 2, none⟩) hle (.string (hgt (pushL (ahG101 a0) mk101 [] 0 xs) 0).f0.s); refine ⟨.slice (hgt (pushL (ahG101 a0) mk101 [] 0 xs) 0).f0.h.A (hgt (pushL (ahG101 a0) mk101 [] 0 xs) 0).f0.h.n (hgt (pushL (ahG101 a0) mk101 [] 0 xs) 0).f0.h.c, rfl, ?_, hBB⟩; rw [hx1] at hBB ⊢; exact Kd.V_mono (Kd.V_below (Kd.V_mk (e := 103) (base := w.heap.size) (hx1 ▸ hx2) hx3) hBB) (fun k hk => .inl hk)
 ·rw [if_neg hfit] at h; cases h


end Go.Proofs.Ytaehlbbjbeibfaa.X
