/- The document's own heap: numbers in the order in which they came. -/
import Derived.Test.YtbmmlkifhhpjcaaE
import Derived.Test.YtbmmlkifhhpjcaaR
namespace Go.Proofs.Ytbmmlkifhhpjcaa.X
open Go.RowKit Go.Proofs.YtbmmlkifhhpjcaaW.PrintWords Go.Proofs.YtbmmlkifhhpjcaaW.PrintLast Go.Proofs.YtbmmlkifhhpjcaaW.PrintMore
attribute [local go_sem] max2_int min2_int max_two min_two max_three min_three max_four min_four
set_option linter.unusedVariables false
set_option linter.unusedSimpArgs false

open Go.Proofs.Ytbmmlkifhhpjcaa
def kT (x : Int) : Int := wrap64 (x.tdiv 10)
/-- the document's heap at block g -/
def RfS (W : World) (g base : Nat) (row : Option Nat) (X : List Int) : Prop :=
  ∃ v, v.ownBlock = row ∧ W.heap[g]? = some (.cells #[v] 30 (0, 0)) ∧ Kd.R (Kd.int .i64) 3 W base (fun k => k ≠ g) v X ∧ base ≤ g
section
variable {W W1 : World} {g base : Nat} {row row2 : Option Nat} {X : List Int}
theorem RfS.lt (h : RfS W g base row X) : g < W.heap.size ∧ base ≤ g := by
  obtain ⟨v, _, hb, _, hg⟩ := h
  exact ⟨blk_lt hb, hg⟩
theorem RfS.row_ (h : RfS W g base row X) : ∀ k, row = some k → base ≤ k ∧ k < W.heap.size ∧ k ≠ g := by
  obtain ⟨v, hv, hb, hR, hg⟩ := h
  intro k hk
  rw [← hv] at hk
  exact ⟨Kd.R_base hR k hk, Kd.R_lt hR k hk, hR.1 k hk⟩
theorem RfS.below (h : RfS W g base row X) (hb : Below W.heap.size W W1) : RfS W1 g base row X := by
  obtain ⟨v, hv, h1, h2, h3⟩ := h
  exact ⟨v, hv, blk_below h1 hb, Kd.R_below h2 hb, h3⟩
theorem RfS.keep (h : RfS W g base row X) {g2 : Nat} (k : KeepBut W W1 g2 row2) (h1 : g ≠ g2) (h2 : some g ≠ row2) (h3 : ∀ b, row = some b → b ≠ g2 ∧ some b ≠ row2) : RfS W1 g base row X := by
  obtain ⟨v, hv, hb, hR, hg⟩ := h
  refine ⟨v, hv, (k.2 g (blk_lt hb) h1 h2).trans hb, rowR_keep rfl hR k (fun b hb => h3 b (hv ▸ hb)), hg⟩
end
def LeastAt (X : List Int) (j : Nat) : Prop := j < X.length ∧ (∀ i, i < X.length → kT (X.getD j 0) ≤ kT (X.getD i 0)) ∧ ∀ i, i < j → kT (X.getD j 0) < kT (X.getD i 0)
set_option maxHeartbeats 4000000 in
set_option maxRecDepth 1000000 in
theorem first_calls (W : World) (g base : Nat) (row : Option Nat) (X : List Int) (hS : RfS W g base row X) (hl : X.length < 1099511627776) :
    Calls Try.prog 38 #[.pointer (some ⟨g, 0, none⟩)] W fun e w' => ∃ r : Int, e = .returned (.int .i64 r) ∧ ((r = -1 ∧ X = []) ∨ ∃ j : Nat, r = j ∧ LeastAt X j) ∧ Drawn0 W w' := by
  obtain ⟨v, hv, hb, hR, hg⟩ := hS
  obtain ⟨A, c, rfl⟩ := Kd.R_slice hR
  have hC := (Kd.R_reads' hR).2.2
  have HC := Aside0.mk hC
  have HB := Aside0.mk hb
  have HL := Aside0.mk hl
  clear hv hb hR hg hC hl
  go_enter Try.func38, Try.ntmps38
  go_wp2
  go_loopw [3, 4] (fun v3 v4 wr => ∃ (i : Nat) (at_ : Int), v4 = .int .i64 i ∧ v3 = .int .i64 at_ ∧ Aside0 (i ≤ X.length ∧ ((i = 0 ∧ at_ = -1) ∨ ∃ j : Nat, at_ = j ∧ j < i ∧ (∀ q, q < i → kT (X.getD j 0) ≤ kT (X.getD q 0)) ∧ ∀ q, q < j → kT (X.getD j 0) < kT (X.getD q 0))) ∧ ∃ n, wr = W.drewN n) (fun _ v4 _ => X.length - (intOf v4).toNat)
  case atStart => exact ⟨0, -1, rfl, rfl, ⟨by omega, .inl ⟨rfl, rfl⟩⟩, 0, rfl⟩
  case round =>
    obtain ⟨i, at_, rfl, rfl, HI, n, rfl⟩ := hrel
    have c0 : W.cell? ⟨g, 0, none⟩ = some (.slice A X.length c) := (blk_cell HB.out 0).trans rfl
    by_cases hi : i < X.length
    · have b1 : decide ((i : Int) < (X.length : Int)) = true := decide_eq_true (by omega)
      have b2 : (i : Int) < (X.length : Int) := by omega
      have b3 : 0 ≤ (i : Int) := by omega
      have hw3 : IntKind.i64.wrap ((i : Int) + 1) = (i : Int) + 1 := by have := HL.out; rw [IntKind.wrap_i64]; omega
      rcases HI.out.2 with ⟨h0, h1⟩ | ⟨j, h1, hj, hle, hlt⟩
      · subst h1
        have HI0 := Aside0.mk h0
        clear h0 HI
        go_upto_region 5 with (fail)
        refine wp_region_quiet_lit (by kernel_rfl) (by kernel_rfl) ?_
        iterate 21
          with_reducible refine wpQuiet_step (fun K hK => ?_)
          go_simp
          with_reducible refine hK _ ?_
          clear hK K
        refine wpQuiet_nil ?_
        intro _ hw'
        obtain ⟨nq, hw''⟩ := hw'
        subst hw''
        go_wp2
        go_roundw
        case measure => simp [intOf]; omega
        case rel => exact ⟨i + 1, i, by go_num, rfl, ⟨by omega, .inr ⟨i, rfl, by omega, fun q hq => by
          obtain rfl : q = i := by have := HI0.out; omega
          exact Int.le_refl _, fun q hq => absurd hq (by have := HI0.out; omega)⟩⟩, n + nq, rfl⟩
      · subst h1
        have HLE := Aside0.mk hle
        have HLT := Aside0.mk hlt
        have hjl : j < X.length := by omega
        obtain ⟨ad, e1, hx⟩ := Kd.at_int HC.out (i : Int) b3 b2
        obtain ⟨ad2, e2, hy⟩ := Kd.at_int HC.out (j : Int) (by omega) (by omega)
        subst e1
        obtain rfl : ad = ad2 := by injection e2
        obtain ⟨x, hx2⟩ : ∃ x, X.getD i 0 = x := ⟨_, rfl⟩
        obtain ⟨y, hy2⟩ : ∃ y, X.getD j 0 = y := ⟨_, rfl⟩
        have hx3 : W.cell? (ad.add i) = some (.int .i64 x) := by
          rw [Int.toNat_natCast] at hx
          exact hx.trans (by rw [show rd X (i : Int) = X.getD i 0 from rfl, hx2])
        have hy3 : W.cell? (ad.add j) = some (.int .i64 y) := by
          rw [Int.toNat_natCast] at hy
          exact hy.trans (by rw [show rd X (j : Int) = X.getD j 0 from rfl, hy2])
        have b4 : decide ((j : Int) < 0) = false := decide_eq_false (by omega)
        have b5 : (j : Int) < (X.length : Int) := by omega
        have b6 : 0 ≤ (j : Int) := by omega
        have he := fun (vs : Array Value) (w : World) => enters_ Try.func36 (by kernel_rfl) rfl vs w
        have hc1 := fun w => (tens_calls x w).mono fun e w' (hh : _ ∧ _) => (⟨hh.1, 0, by rw [hh.2]; rfl⟩ : e = .returned (.int .i64 (wrap64 (x.tdiv 10))) ∧ Drawn0 w w')
        have hc2 := fun w => (tens_calls y w).mono fun e w' (hh : _ ∧ _) => (⟨hh.1, 0, by rw [hh.2]; rfl⟩ : e = .returned (.int .i64 (wrap64 (y.tdiv 10))) ∧ Drawn0 w w')
        have HX2 := Aside0.mk (And.intro hx2 hy2)
        have hji := hj
        obtain ⟨b, hb⟩ : ∃ b, decide (wrap64 (x.tdiv 10) < wrap64 (y.tdiv 10)) = b := ⟨_, rfl⟩
        have HBD := Aside0.mk hb
        clear hx hy e2 hx2 hy2 hle hlt HI hb
        go_upto_region 5 with (fail)
        refine wp_region_quiet_lit (by kernel_rfl) (by kernel_rfl) ?_
        iterate 10
          with_reducible refine wpQuiet_step (fun K hK => ?_)
          go_simp
          with_reducible refine hK _ ?_
          clear hK K
        refine wpQuiet_step (fun K hK => ?_)
        refine quiet_call 36 #[.int .i64 x] _ (by rfl) (fun w => by unfold execOp; simp [resolve, Deferred.ofValue, invoke, Act.eval, he]) hc1 (hK _ ?_)
        clear hK K
        iterate 7
          with_reducible refine wpQuiet_step (fun K hK => ?_)
          go_simp
          with_reducible refine hK _ ?_
          clear hK K
        refine wpQuiet_step (fun K hK => ?_)
        refine quiet_call 36 #[.int .i64 y] _ (by rfl) (fun w => by unfold execOp; simp [resolve, Deferred.ofValue, invoke, Act.eval, he]) hc2 (hK _ ?_)
        clear hK K
        have hb := HBD.out
        iterate 2
          with_reducible refine wpQuiet_step (fun K hK => ?_)
          go_simp
          with_reducible refine hK _ ?_
          clear hK K
        clear hb
        cases b
        · refine wpQuiet_nil ?_
          intro _ hw'
          obtain ⟨nq, hw''⟩ := hw'
          subst hw''
          go_wp2
          go_roundw
          case measure => simp [intOf]; omega
          case rel => exact ⟨i + 1, j, by go_num, rfl, ⟨by omega, .inr ⟨j, rfl, by omega, fun q hq => by
            rcases Nat.lt_or_ge q i with h | h
            · exact HLE.out q h
            · obtain rfl : q = i := by omega
              rw [HX2.out.1, HX2.out.2]
              have := of_decide_eq_false HBD.out
              show wrap64 (y.tdiv 10) ≤ wrap64 (x.tdiv 10)
              omega, HLT.out⟩⟩, n + nq, rfl⟩
        · refine wpQuiet_nil ?_
          intro _ hw'
          obtain ⟨nq, hw''⟩ := hw'
          subst hw''
          go_wp2
          go_roundw
          case measure => simp [intOf]; omega
          case rel => exact ⟨i + 1, i, by go_num, rfl, ⟨by omega, .inr ⟨i, rfl, by omega, fun q hq => by
            have h1 := of_decide_eq_true HBD.out
            rw [HX2.out.1]
            show wrap64 (x.tdiv 10) ≤ _
            rcases Nat.lt_or_ge q i with h | h
            · have h2 := HLE.out q h
              rw [HX2.out.2] at h2
              have h3 : wrap64 (y.tdiv 10) ≤ kT (X.getD q 0) := h2
              omega
            · obtain rfl : q = i := by omega
              rw [HX2.out.1]
              exact Int.le_refl _, fun q hq => by
            have h1 := of_decide_eq_true HBD.out
            have h2 := HLE.out q hq
            rw [HX2.out.2] at h2
            rw [HX2.out.1]
            have h3 : wrap64 (y.tdiv 10) ≤ kT (X.getD q 0) := h2
            show wrap64 (x.tdiv 10) < _
            omega⟩⟩, n + nq, rfl⟩
    · have hie : i = X.length := by have := HI.out.1; omega
      subst hie
      have b1 : decide ((X.length : Int) < (X.length : Int)) = false := decide_eq_false (by omega)
      clear hi
      go_wp2
      go_ret
      refine ⟨at_, rfl, ?_, n, rfl⟩
      rcases HI.out.2 with ⟨h0, h1⟩ | ⟨j, h1, hj, hle, hlt⟩
      · exact .inl ⟨h1, List.eq_nil_of_length_eq_zero (by omega)⟩
      · exact .inr ⟨j, h1, hj, fun q hq => hle q hq, hlt⟩
/-- a row appended to another one, fresh -/
def Fresh (W : World) (row : Option Nat) : Prop := row = none ∨ ∃ b, row = some b ∧ W.heap.size ≤ b
set_option maxHeartbeats 1000000 in
set_option maxRecDepth 1000000 in
theorem refPush_calls (W : World) (g base : Nat) (row : Option Nat) (X : List Int) (A : Option Addr) (c : Nat) (xs : List Int) (hS : RfS W g base row X) (hC : Kd.C (Kd.int .i64) W A xs.length xs) (hl : X.length + xs.length < 1099511627776) :
    Calls Try.prog 10 #[.pointer (some ⟨g, 0, none⟩), .slice A xs.length c] W fun e w' => e = .returned (.tuple #[]) ∧ ∃ row', RfS w' g base row' (X ++ xs) ∧ Fresh W row' ∧ Below base W w' ∧ KeepBut W w' g none := by
  have hlt := hS.lt
  obtain ⟨v, hv, hb, hR, hg⟩ := hS
  obtain ⟨A1, c1, rfl⟩ := Kd.R_slice hR
  have c0 : W.cell? ⟨g, 0, none⟩ = some (.slice A1 X.length c1) := (blk_cell hb 0).trans rfl
  have HB := Aside0.mk hb
  have HC1 := Aside0.mk (Kd.R_reads' hR).2.2
  have HC := Aside0.mk hC
  have HG := Aside0.mk hg
  have HLT := Aside0.mk hlt
  have HL1 := Aside0.mk (show (([] : List Int).length + X.length) * 8 ≤ 140737488355328 by simp only [List.length_nil]; omega)
  have HL2 := Aside0.mk (show (X.length + xs.length) * 8 ≤ 140737488355328 by omega)
  have HSZ := Aside0.mk (show base ≤ W.heap.size by omega)
  clear hv hb hR hg hC hl hlt
  go_enter Try.func10, Try.ntmps10
  go_wp2_with (first
    | ((with_reducible refine gate_builtin (b := .append) (xs := #[.const (.slice none 0 0), .tmp 8]) rfl ?_); at_builtin; refine Kd.R_append_rows (Kd.int .i64) (w0 := W) W.heap.size rfl (.const (.slice none 0 0)) (.tmp 8) 22 3 (.int .i64 0) 8 rfl Try.underlying22 infoE92 rfl (by decide) (by omega) (.slice none 0 0) [] X A1 X.length c1 (fun _ => True) (fun _ => False) rfl rfl (Kd.R_nil _ _ _ _ _) HC1.out (fun _ _ h => h) (fun _ h => h.elim) (fun _ _ => trivial) (Below.refl _ _) (Nat.le_refl _) HL1.out ?_; intro v1 w1 ho hb hg hat; obtain ⟨A2, c2, rfl⟩ := Kd.R_slice ho; have HO1 := Aside0.mk ho; have HB1 := Aside0.mk hb; rw [List.nil_append] at HO1 ⊢; clear ho hb hg hat)
    | ((with_reducible refine gate_builtin (b := .append) (xs := #[.tmp 9, .tmp 10]) rfl ?_); at_builtin; refine Kd.R_append_rows (Kd.int .i64) (w0 := W) W.heap.size rfl (.tmp 9) (.tmp 10) 22 3 (.int .i64 0) 8 rfl Try.underlying22 infoE92 rfl (by decide) (by omega) (.slice A2 X.length c2) X xs A xs.length c (fun _ => True) (fun _ => False) rfl rfl HO1.out (Kd.C_below HC.out HB1.out) (fun _ _ h => h) (fun _ h => h.elim) (fun _ _ => trivial) HB1.out HB1.out.size HL2.out ?_; intro v2 w2 ho hb hg hat; obtain ⟨A3, c3, rfl⟩ := Kd.R_slice ho; have HO2 := Aside0.mk ho; have HB2 := Aside0.mk hb; clear ho hb hg hat; have hgb := (HB2.out.block g HLT.out.1).trans HB.out; have d0 : w2.cell? ⟨g, 0, none⟩ = some (.slice A1 X.length c1) := (blk_cell hgb 0).trans rfl; have fz : w2.frozen? ⟨g, 0, none⟩ = false := blk_frozen hgb 0; have HGB := Aside0.mk hgb; clear hgb))
  refine bodyPost_end (results_none rfl _ _ _) rfl ?_
  have hne : ∀ k, (Value.slice A3 (X ++ xs).length c3).ownBlock = some k → W.heap.size ≤ k := fun k hk => Kd.R_base HO2.out k hk
  refine ⟨rfl, (Value.slice A3 (X ++ xs).length c3).ownBlock, ⟨.slice A3 (X ++ xs).length c3, rfl, blk_put HGB.out 0 _ (by rw [List.length_append]; rfl), ?_, HG.out⟩, ?_, ?_, ?_⟩
  · have h1 := Kd.R_reok (ok := fun k => k ≠ g) rfl HO2.out (fun k hk => by have := hne k hk; have := HLT.out.1; omega)
    exact Kd.R_far (p := ⟨g, 0, none⟩) (Kd.R_lower h1 HSZ.out) (fun _ h => h) _
  · cases ho : (Value.slice A3 (X ++ xs).length c3).ownBlock with
    | none => exact .inl rfl
    | some b => exact .inr ⟨b, rfl, hne b ho⟩
  · exact (HB2.out.mono HSZ.out).setCell (p := ⟨g, 0, none⟩) HG.out _
  · exact (KeepBut.of_below HB2.out g none).set_ 0 _
theorem firstE {X : List Int} {j k : Nat} (h : LeastAt X j) (h2 : LeastAt X k) : j = k := by
  obtain ⟨a1, a2, a3⟩ := h
  obtain ⟨b1, b2, b3⟩ := h2
  rcases Nat.lt_trichotomy j k with h | h | h
  · have := b3 j h
    have := a2 k b1
    omega
  · exact h
  · have := a3 k h
    have := b2 j a1
    omega
theorem first_some (W : World) (g base : Nat) (row : Option Nat) (X : List Int) (j : Nat) (hS : RfS W g base row X) (hl : X.length < 1099511627776) (hj : LeastAt X j) :
    Calls Try.prog 38 #[.pointer (some ⟨g, 0, none⟩)] W fun e w' => e = .returned (.int .i64 j) ∧ Drawn0 W w' :=
  (first_calls W g base row X hS hl).mono fun e w' hh => by
    obtain ⟨r, he, hr, hd⟩ := hh
    rcases hr with ⟨_, h0⟩ | ⟨k, hk, h2⟩
    · subst h0
      exact absurd hj.1 (by simp)
    · rw [he, hk, firstE hj h2]
      exact ⟨rfl, hd⟩
theorem first_none (W : World) (g base : Nat) (row : Option Nat) (hS : RfS W g base row []) :
    Calls Try.prog 38 #[.pointer (some ⟨g, 0, none⟩)] W fun e w' => e = .returned (.int .i64 (-1)) ∧ Drawn0 W w' :=
  (first_calls W g base row [] hS (by decide)).mono fun e w' hh => by
    obtain ⟨r, he, hr, hd⟩ := hh
    rcases hr with ⟨h1, _⟩ | ⟨k, _, h2⟩
    · rw [he, h1]
      exact ⟨rfl, hd⟩
    · exact absurd h2.1 (by simp)
set_option maxHeartbeats 1000000 in
set_option maxRecDepth 1000000 in
theorem refPeek_none (W : World) (g base : Nat) (row : Option Nat) (hS : RfS W g base row []) :
    Calls Try.prog 16 #[.pointer (some ⟨g, 0, none⟩)] W fun e w' => e = .returned (.tuple #[.int .i64 0, .bool false]) ∧ Drawn0 W w' := by
  have HS := Aside0.mk hS
  clear hS
  go_enter Try.func16, Try.ntmps16
  go_wp2_with (go_at_call 38; (with_reducible refine (first_none _ g base row HS.out).mono ?_); rintro e w1 ⟨rfl, hd⟩)
  refine bodyPost_ret (results_list (rs := [.tmp 2, .tmp 3]) rfl (by simp) (.tmp (.tmp .nil))) rfl ?_
  exact ⟨rfl, hd⟩
set_option maxHeartbeats 1000000 in
set_option maxRecDepth 1000000 in
theorem refPop_none (W : World) (g base : Nat) (row : Option Nat) (hS : RfS W g base row []) :
    Calls Try.prog 12 #[.pointer (some ⟨g, 0, none⟩)] W fun e w' => e = .returned (.tuple #[.int .i64 0, .bool false]) ∧ Drawn0 W w' := by
  have HS := Aside0.mk hS
  clear hS
  go_enter Try.func12, Try.ntmps12
  go_wp2_with (go_at_call 38; (with_reducible refine (first_none _ g base row HS.out).mono ?_); rintro e w1 ⟨rfl, hd⟩)
  refine bodyPost_ret (results_list (rs := [.tmp 2, .tmp 3]) rfl (by simp) (.tmp (.tmp .nil))) rfl ?_
  exact ⟨rfl, hd⟩
set_option maxHeartbeats 1000000 in
set_option maxRecDepth 1000000 in
theorem refPeek_some (W : World) (g base : Nat) (row : Option Nat) (X : List Int) (j : Nat) (hS : RfS W g base row X) (hl : X.length < 1099511627776) (hj : LeastAt X j) :
    Calls Try.prog 16 #[.pointer (some ⟨g, 0, none⟩)] W fun e w' => e = .returned (.tuple #[.int .i64 (X.getD j 0), .bool true]) ∧ Drawn0 W w' := by
  have HS := Aside0.mk hS
  have HJ := Aside0.mk hj
  have hjl := hj.1
  obtain ⟨v, hv, hb, hR, hg⟩ := hS
  obtain ⟨A, c, rfl⟩ := Kd.R_slice hR
  have hb2 : (j : Int) < (X.length : Int) := by omega
  have hb3 : 0 ≤ (j : Int) := by omega
  have hb4 : decide ((j : Int) < 0) = false := decide_eq_false (by omega)
  obtain ⟨ad, e1, hx⟩ := Kd.at_int (Kd.R_reads' hR).2.2 (j : Int) hb3 hb2
  subst e1
  obtain ⟨x, hx2⟩ : ∃ x, X.getD j 0 = x := ⟨_, rfl⟩
  rw [hx2]
  have hx3 : W.cell? (ad.add j) = some (.int .i64 x) := by
    rw [Int.toNat_natCast] at hx
    exact hx.trans (by rw [show rd X (j : Int) = X.getD j 0 from rfl, hx2])
  have c0 : W.cell? ⟨g, 0, none⟩ = some (.slice (some ad) X.length c) := (blk_cell hb 0).trans rfl
  have HL := Aside0.mk hl
  clear hv hb hR hg hx hj hl
  go_enter Try.func16, Try.ntmps16
  go_wp2_with (go_at_call 38; (with_reducible refine (first_some _ g base row X j HS.out HL.out HJ.out).mono ?_); rintro e w1 ⟨rfl, ⟨nd, rfl⟩⟩)
  refine bodyPost_ret (results_list (rs := [.tmp 2, .tmp 3]) rfl (by simp) (.tmp (.tmp .nil))) rfl ?_
  exact ⟨rfl, nd, rfl⟩
set_option maxHeartbeats 1000000 in
set_option maxRecDepth 1000000 in
theorem refPop_some (W : World) (g base : Nat) (row : Option Nat) (X : List Int) (j : Nat) (hS : RfS W g base row X) (hl : X.length < 1099511627776) (hj : LeastAt X j) :
    Calls Try.prog 12 #[.pointer (some ⟨g, 0, none⟩)] W fun e w' => e = .returned (.tuple #[.int .i64 (X.getD j 0), .bool true]) ∧ ∃ row', RfS w' g base row' (X.take j ++ X.drop (j + 1)) ∧ Fresh W row' ∧ Below base W w' ∧ KeepBut W w' g none := by
  have HS := Aside0.mk hS
  have HJ := Aside0.mk hj
  have hjl := hj.1
  have hlt := hS.lt
  obtain ⟨v, hv, hb, hR, hg⟩ := hS
  obtain ⟨A, c, rfl⟩ := Kd.R_slice hR
  have hb2 : (j : Int) < (X.length : Int) := by omega
  have hb3 : 0 ≤ (j : Int) := by omega
  have hb4 : decide ((j : Int) < 0) = false := decide_eq_false (by omega)
  have hcap := (Kd.R_reads' hR).2.1
  have hC := (Kd.R_reads' hR).2.2
  obtain ⟨ad, e1, hx⟩ := Kd.at_int hC (j : Int) hb3 hb2
  subst e1
  obtain ⟨x, hx2⟩ : ∃ x, X.getD j 0 = x := ⟨_, rfl⟩
  rw [hx2]
  have hx3 : W.cell? (ad.add j) = some (.int .i64 x) := by
    rw [Int.toNat_natCast] at hx
    exact hx.trans (by rw [show rd X (j : Int) = X.getD j 0 from rfl, hx2])
  have c0 : W.cell? ⟨g, 0, none⟩ = some (.slice (some ad) X.length c) := (blk_cell hb 0).trans rfl
  have HL := Aside0.mk hl
  have HB := Aside0.mk hb
  have HG := Aside0.mk hg
  have HLT := Aside0.mk hlt
  have hw1 : IntKind.i64.wrap ((j : Int) + 1) = (j : Int) + 1 := by rw [IntKind.wrap_i64]; omega
  have hb5 : (j : Int) ≤ (c : Int) := by omega
  have hb6 : (j : Int) + 1 ≤ (X.length : Int) := by omega
  have HC := Aside0.mk hC
  clear hv hb hR hg hx hj hl hlt
  go_enter Try.func12, Try.ntmps12
  go_upto_region 6 with (go_at_call 38; (with_reducible refine (first_some _ g base row X j HS.out HL.out HJ.out).mono ?_); rintro e w1 ⟨rfl, ⟨nd, rfl⟩⟩)
  have hcj := Kd.C_take HC.out (m := j) (by omega)
  have hlj : (X.take j).length = j := by rw [List.length_take]; omega
  rw [hlj] at hcj
  have HCJ := Aside0.mk hcj
  have HL1 := Aside0.mk (show (([] : List Int).length + j) * 8 ≤ 140737488355328 by have := HL.out; simp only [List.length_nil]; omega)
  have HLJ := Aside0.mk hlj
  have hcd := Kd.C_drop (c := c) HC.out (m := j + 1) (by omega) hcap
  obtain ⟨A', hA'⟩ : ∃ A', (if c = j + 1 then some ad else some (⟨ad.block, ad.off + (j + 1), none⟩ : Addr)) = A' := ⟨_, rfl⟩
  have hA2 : (if c = j + 1 then some ad else (some ad).map (·.add ((j + 1) * (Kd.int .i64).sz))) = A' := by rw [← hA', show (Kd.int .i64).sz = 1 from rfl, Nat.mul_one, Option.map_some]; simp [Addr.add]
  have hld : (X.drop (j + 1)).length = X.length - (j + 1) := List.length_drop
  rw [hA2, hld] at hcd
  have HCD := Aside0.mk hcd
  have HL2 := Aside0.mk (show ((X.take j).length + (X.length - (j + 1))) * 8 ≤ 140737488355328 by have := HL.out; rw [hlj]; omega)
  clear hcj hlj hcd hA2 hld
  go_wp2_with (first
    | ((with_reducible refine gate_builtin (b := .append) (xs := #[.tmp 18, .tmp 24]) rfl ?_); at_builtin; refine Kd.R_append_rows (Kd.int .i64) (w0 := W) W.heap.size rfl (.tmp 18) (.tmp 24) 22 3 (.int .i64 0) 8 rfl Try.underlying22 infoE92 rfl (by decide) (by omega) (.slice none 0 0) [] (X.take j) (some ad) j c (fun _ => True) (fun _ => False) rfl rfl (Kd.R_nil _ _ _ _ _) (Kd.C_drewN HCJ.out nd) (fun _ _ h => h) (fun _ h => h.elim) (fun _ _ => trivial) (pw_below_drewN (Below.refl _ _) nd) (Nat.le_refl _) HL1.out ?_; intro v1 w1 ho hb hg hat; obtain ⟨A2, c2, rfl⟩ := Kd.R_slice ho; rw [List.nil_append] at ho ⊢; rw [HLJ.out] at ho ⊢; have HO1 := Aside0.mk ho; have HB1 := Aside0.mk hb; clear ho hb hg hat; have hgb := (HB1.out.block g HLT.out.1).trans HB.out; have d0 : w1.cell? ⟨g, 0, none⟩ = some (.slice (some ad) X.length c) := (blk_cell hgb 0).trans rfl; clear hgb)
    | ((with_reducible refine gate_builtin (b := .append) (xs := #[.tmp 27, .tmp 34]) rfl ?_); at_builtin; refine Kd.R_append_rows (Kd.int .i64) (w0 := W) W.heap.size rfl (.tmp 27) (.tmp 34) 22 3 (.int .i64 0) 8 rfl Try.underlying22 infoE92 rfl (by decide) (by omega) (.slice A2 j c2) (X.take j) (X.drop (j + 1)) A' (X.length - (j + 1)) (c - (j + 1)) (fun _ => True) (fun _ => False) rfl rfl HO1.out (Kd.C_below HCD.out HB1.out) (fun _ _ h => h) (fun _ h => h.elim) (fun _ _ => trivial) HB1.out HB1.out.size HL2.out ?_; intro v2 w2 ho hb hg hat; obtain ⟨A3, c3, rfl⟩ := Kd.R_slice ho; obtain ⟨ln, hln⟩ : ∃ ln, (X.take j ++ X.drop (j + 1)).length = ln := ⟨_, rfl⟩; rw [hln] at ho ⊢; have HO2 := Aside0.mk ho; have HB2 := Aside0.mk hb; clear ho hb hg hat hln; have hgb := (HB2.out.block g HLT.out.1).trans HB.out; have e0 : w2.cell? ⟨g, 0, none⟩ = some (.slice (some ad) X.length c) := (blk_cell hgb 0).trans rfl; have fz : w2.frozen? ⟨g, 0, none⟩ = false := blk_frozen hgb 0; have HGB := Aside0.mk hgb; clear hgb))
  refine bodyPost_ret (results_list (rs := [.tmp 2, .tmp 3]) rfl (by simp) (.tmp (.tmp .nil))) rfl ?_
  have hne : ∀ k, (Value.slice A3 ln c3).ownBlock = some k → W.heap.size ≤ k := fun k hk => Kd.R_base HO2.out k hk
  have hsz : base ≤ W.heap.size := by have := HLT.out; omega
  refine ⟨rfl, (Value.slice A3 ln c3).ownBlock, ⟨.slice A3 ln c3, rfl, blk_put HGB.out 0 _ rfl, ?_, HG.out⟩, ?_, ?_, ?_⟩
  · have h1 := Kd.R_reok (ok := fun k => k ≠ g) rfl HO2.out (fun k hk => by have := hne k hk; have := HLT.out.1; omega)
    exact Kd.R_far (p := ⟨g, 0, none⟩) (Kd.R_lower h1 hsz) (fun _ h => h) _
  · cases ho : (Value.slice A3 ln c3).ownBlock with
    | none => exact .inl rfl
    | some b => exact .inr ⟨b, rfl, hne b ho⟩
  · exact (HB2.out.mono hsz).setCell (p := ⟨g, 0, none⟩) HG.out _
  · exact (KeepBut.of_below HB2.out g none).set_ 0 _
end Go.Proofs.Ytbmmlkifhhpjcaa.X
