/- The order of a heap's things, and 'ahead' (instance int). -/
import Derived.Test.YtbmmlkifhhpjcaaX11
import Derived.Test.YtbmmlkifhhpjcaaR
namespace Go.Proofs.Ytbmmlkifhhpjcaa.X
open Go.RowKit Go.Proofs.YtbmmlkifhhpjcaaW.PrintWords Go.Proofs.YtbmmlkifhhpjcaaW.PrintLast Go.Proofs.YtbmmlkifhhpjcaaW.PrintMore
attribute [local go_sem] max2_int min2_int max_two min_two max_three min_three max_four min_four
set_option linter.unusedVariables false
set_option linter.unusedSimpArgs false

open Go.Proofs.Ytbmmlkifhhpjcaa
theorem tens_calls (x : Int) (w : World) : Calls Try.prog 36 #[.int .i64 x] w fun e w' => e = .returned (.int .i64 (wrap64 (x.tdiv 10))) ∧ w' = w := by
  go_enter Try.func36, Try.ntmps36
  go_wp2
  go_ret
  exact ⟨rfl, rfl⟩
def less92 (x y : Int) : Bool := decide (wrap64 (x.tdiv 10) < wrap64 (y.tdiv 10))
theorem less92_calls (x y : Int) (w : World) : Calls Try.prog 9 #[.int .i64 x, .int .i64 y] w fun e w' => e = .returned (.bool (less92 x y)) ∧ Drawn0 w w' := by
  unfold less92
  go_enter Try.func9, Try.ntmps9
  go_wp2_with (go_at_call 36; (with_reducible refine (tens_calls _ _).mono ?_); rintro e w1 ⟨rfl, rfl⟩)
  go_ret
  exact ⟨rfl, 0, rfl⟩
def ah92 (a b : S92) : Bool := less92 a.f0 b.f0 || (!less92 b.f0 a.f0 && decide (a.f1 < b.f1))
set_option maxHeartbeats 1000000 in
set_option maxRecDepth 1000000 in
theorem ahead92_calls (W : World) (g base : Nat) (row : Option Nat) (L : List S92) (came i j : Int) (hS : HS92 W g base row L came) (hi0 : 0 ≤ i) (hi1 : i < (L.length : Int)) (hj0 : 0 ≤ j) (hj1 : j < (L.length : Int)) :
    Calls Try.prog 48 #[.pointer (some ⟨g, 0, none⟩), .int .i64 i, .int .i64 j] W fun e w' => e = .returned (.bool (ah92 (rd_T92 L i) (rd_T92 L j))) ∧ Below W.heap.size W w' := by
  have HB := Aside0.mk (Below.refl W.heap.size W)
  obtain ⟨v, hv, hb, hR, hg⟩ := hS
  obtain ⟨A, c, rfl⟩ := Kd.R_slice hR
  have hC := (Kd.R_reads' hR).2.2
  obtain ⟨ad, e1, x0, x1⟩ := at_T92 hC i hi0 hi1
  obtain ⟨ad2, e2, y0, y1⟩ := at_T92 hC j hj0 hj1
  subst e1
  obtain rfl : ad = ad2 := by injection e2
  have c0 : W.cell? ⟨g, 0, none⟩ = some (.slice (some ad) L.length c) := (blk_cell hb 0).trans rfl
  have c1 : W.cell? ⟨g, 1, none⟩ = some (.func (.func 9) #[] #[]) := (blk_cell hb 1).trans rfl
  have p1 := eq_true hi0
  have p2 := eq_true hi1
  have p3 := eq_true hj0
  have p4 := eq_true hj1
  have HG := Aside0.mk hb
  clear hC e2 hv hb hR hg
  generalize rd_T92 L i = x at x0 x1 ⊢
  generalize rd_T92 L j = y at y0 y1 ⊢
  go_enter Try.func48, Try.ntmps48
  go_upto_region 1 with (fail)
  go_cut [7, 8] (fun v7 v8 wc => ∃ p q : Nat, v7 = .pointer (some ⟨p, 0, none⟩) ∧ v8 = .pointer (some ⟨q, 0, none⟩) ∧ Aside0 (wc.cell? ⟨p, 0, none⟩ = some (.int .i64 x.f0) ∧ wc.cell? ⟨p, 1, none⟩ = some (.int .i64 x.f1) ∧ wc.cell? ⟨q, 0, none⟩ = some (.int .i64 y.f0) ∧ wc.cell? ⟨q, 1, none⟩ = some (.int .i64 y.f1) ∧ wc.cell? ⟨g, 1, none⟩ = some (.func (.func 9) #[] #[])) ∧ Aside0 (Below W.heap.size W wc))
  case first =>
    go_region_held3 (fun w' => w'.cell? ⟨g, 0, none⟩ = some (.slice (some ad) L.length c) ∧ w'.cell? (ad.add (i.toNat * 2)) = some (.int .i64 x.f0) ∧ w'.cell? ⟨(ad.add (i.toNat * 2)).block, (ad.add (i.toNat * 2)).off + 1, none⟩ = some (.int .i64 x.f1) ∧ w'.cell? (ad.add (j.toNat * 2)) = some (.int .i64 y.f0) ∧ w'.cell? ⟨(ad.add (j.toNat * 2)).block, (ad.add (j.toNat * 2)).off + 1, none⟩ = some (.int .i64 y.f1)) (go_keep) (fail)
    all_goals
      go_wp2
      go_meet
      obtain ⟨h1, h2, h3, h4, h5, h6⟩ := two_new W 92 _ _ _ _ HG.out
      first
        | exact ⟨_, _, rfl, rfl, ⟨h1, h2, h3, h4, (blk_cell h5 1).trans rfl⟩, ⟨h6⟩⟩
        | exact ⟨_, _, rfl, rfl, ⟨h3, h4, h1, h2, (blk_cell h5 1).trans rfl⟩, ⟨h6⟩⟩
  case rest =>
    obtain ⟨p, q, rfl, rfl, HP, HB2⟩ := hcut
    clear x0 x1 y0 y1 c0 c1 p1 p2 p3 p4 HB HG
    obtain ⟨z0, z1, z2, z3, z4⟩ := HP.out
    go_upto_region 2 with (fail)
    have he := fun (vs : Array Value) (w : World) => enters_ Try.func9 (by kernel_rfl) rfl vs w
    obtain ⟨b1, hb1⟩ : ∃ b, less92 x.f0 y.f0 = b := ⟨_, rfl⟩
    obtain ⟨b2, hb2⟩ : ∃ b, less92 y.f0 x.f0 = b := ⟨_, rfl⟩
    have hl1 := less92_calls x.f0 y.f0
    have hl2 := less92_calls y.f0 x.f0
    rw [hb1] at hl1
    rw [hb2] at hl2
    have hah : Aside0 (ah92 x y = (b1 || (!b2 && decide (x.f1 < y.f1)))) := ⟨by unfold ah92; rw [hb1, hb2]⟩
    clear hb1 hb2
    refine wp_region_quiet_lit (by kernel_rfl) (by kernel_rfl) ?_
    iterate 8 quiet_step (fail)
    refine wpQuiet_step (fun K hK => ?_)
    refine quiet_call 9 #[.int .i64 x.f0, .int .i64 y.f0] _ (by rfl) (fun w => by unfold execOp; simp [resolve, Deferred.ofValue, invoke, Act.eval, he]) hl1 (hK _ ?_)
    clear hK K hl1
    cases b1
    · iterate 9 quiet_step (fail)
      refine wpQuiet_step (fun K hK => ?_)
      refine quiet_call 9 #[.int .i64 y.f0, .int .i64 x.f0] _ (by rfl) (fun w => by unfold execOp; simp [resolve, Deferred.ofValue, invoke, Act.eval, he]) hl2 (hK _ ?_)
      clear hK K hl2 he
      cases b2
      all_goals
        iterate 10
          with_reducible refine wpQuiet_step (fun K hK => ?_)
          go_simp
          with_reducible refine hK _ ?_
          clear hK K
        refine wpQuiet_nil ?_
        intro _ hw'
        obtain ⟨nq, hw''⟩ := hw'
        subst hw''
        go_wp2
        go_ret
        refine ⟨?_, pw_below_drewN HB2.out _⟩
        rw [hah.out]
        rfl
    · clear hl2 he
      iterate 20
        with_reducible refine wpQuiet_step (fun K hK => ?_)
        go_simp
        try rw [if_neg (by unfold undef; simp)]
        with_reducible refine hK _ ?_
        clear hK K
      refine wpQuiet_nil ?_
      intro _ hw'
      obtain ⟨nq, hw''⟩ := hw'
      subst hw''
      go_wp2
      go_ret
      refine ⟨?_, pw_below_drewN HB2.out _⟩
      rw [hah.out]
      rfl
theorem ahead92_nat (W : World) (g base : Nat) (row : Option Nat) (L : List S92) (came : Int) (i j : Nat) (b : Bool) (hS : HS92 W g base row L came) (hi : i < L.length) (hj : j < L.length) (hb : ah92 (hgt L i) (hgt L j) = b) :
    Calls Try.prog 48 #[.pointer (some ⟨g, 0, none⟩), .int .i64 i, .int .i64 j] W fun e w' => e = .returned (.bool b) ∧ Below W.heap.size W w' := by
  have := ahead92_calls W g base row L came i j hS (by omega) (by omega) (by omega) (by omega)
  rwa [rd92, rd92, Int.toNat_natCast, Int.toNat_natCast, hb] at this
section
variable {W : World} {base gr n cap : Nat} {ok : Nat → Prop} {L : List S92}
/-- one thing is put into its place -/
theorem put92 (hR : k92.R 92 W base ok (.slice (some ⟨gr, 0, none⟩) n cap) L) (i : Nat) (hi : i < n) (x : S92) :
    k92.R 92 ((W.setCell ⟨gr, i * 2, none⟩ (.int .i64 x.f0)).setCell ⟨gr, i * 2 + 1, none⟩ (.int .i64 x.f1)) base ok (.slice (some ⟨gr, 0, none⟩) n cap) (L.set i x) ∧
    W.grownBy ((W.setCell ⟨gr, i * 2, none⟩ (.int .i64 x.f0)).setCell ⟨gr, i * 2 + 1, none⟩ (.int .i64 x.f1)) (some gr) := by
  obtain ⟨c, hcl, hM, hcc, _⟩ := Kd.R_elem hR z92 i (by omega) (by omega)
  rw [Int.toNat_natCast] at hcc
  have h2 : k92.sz = 2 := rfl
  rw [h2] at hcl hcc
  have hd : c.take 0 ++ [.int .i64 x.f0, .int .i64 x.f1] ++ c.drop (0 + 2) = [.int .i64 x.f0, .int .i64 x.f1] := by
    rw [List.take_zero, List.nil_append, List.drop_of_length_le (by omega), List.append_nil]
  have := Kd.R_seg (okp := fun _ => False) hR i (by omega) (by omega) (c := c) (seg := [.int .i64 x.f0, .int .i64 x.f1]) (j := 0) (x' := x) hcl (by rw [Int.toNat_natCast]; exact hcc) (by show 0 + 2 ≤ 2; omega) (by rw [show ([Value.int .i64 x.f0, .int .i64 x.f1] : List Value).length = 2 from rfl, hd]; exact k92_mkM _ _ _ x) (fun k hk => hk.elim)
  rw [Int.toNat_natCast, h2, Nat.add_zero] at this
  exact this
/-- the world behind an exchange -/
def exW92 (w : World) (gr i j : Nat) (x y : S92) : World := (((w.setCell ⟨gr, i * 2, none⟩ (.int .i64 x.f0)).setCell ⟨gr, i * 2 + 1, none⟩ (.int .i64 x.f1)).setCell ⟨gr, j * 2, none⟩ (.int .i64 y.f0)).setCell ⟨gr, j * 2 + 1, none⟩ (.int .i64 y.f1)
/-- two things change places -/
theorem swap92 (hR : k92.R 92 W base ok (.slice (some ⟨gr, 0, none⟩) n cap) L) (i j : Nat) (hi : i < n) (hj : j < n) :
    k92.R 92 (exW92 W gr i j (hgt L j) (hgt L i)) base ok (.slice (some ⟨gr, 0, none⟩) n cap) (swp L i j) ∧ W.grownBy (exW92 W gr i j (hgt L j) (hgt L i)) (some gr) := by
  obtain ⟨h1, g1⟩ := put92 hR i hi (hgt L j)
  obtain ⟨h2, g2⟩ := put92 h1 j hj (hgt L i)
  exact ⟨h2, g1.trans g2⟩
/-- a place: its cells -/
theorem cells92 (hR : k92.R 92 W base ok (.slice (some ⟨gr, 0, none⟩) n cap) L) (i : Nat) (hi : i < n) :
    W.cell? ⟨gr, i * 2, none⟩ = some (.int .i64 (hgt L i).f0) ∧ W.cell? ⟨gr, i * 2 + 1, none⟩ = some (.int .i64 (hgt L i).f1) ∧ W.frozen? ⟨gr, i * 2, none⟩ = false ∧ W.frozen? ⟨gr, i * 2 + 1, none⟩ = false := by
  obtain ⟨c, hcl, hM, hcc, hf⟩ := Kd.R_elem hR z92 i (by omega) (by omega)
  obtain rfl := k92_openM hM
  rw [Int.toNat_natCast] at hcc hf
  exact ⟨hcc 0 _ rfl, hcc 1 _ rfl, hf 0, hf 1⟩
end
end Go.Proofs.Ytbmmlkifhhpjcaa.X
