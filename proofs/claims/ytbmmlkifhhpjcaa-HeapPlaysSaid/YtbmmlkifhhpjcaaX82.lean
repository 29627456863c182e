/- The heap beside the document's own: what a call on one leaves of the other; that both hold the same. -/
import Derived.Test.YtbmmlkifhhpjcaaX81
namespace Go.Proofs.Ytbmmlkifhhpjcaa.X
open Go.RowKit Go.Proofs.YtbmmlkifhhpjcaaW.PrintWords Go.Proofs.YtbmmlkifhhpjcaaW.PrintLast Go.Proofs.YtbmmlkifhhpjcaaW.PrintMore
attribute [local go_sem] max2_int min2_int max_two min_two max_three min_three max_four min_four
set_option linter.unusedVariables false
set_option linter.unusedSimpArgs false

open Go.Proofs.Ytbmmlkifhhpjcaa
/-- a heap at gh, the document's at gx -/
structure DuoAt (W0 W : World) (gh gx : Nat) (M : List S92) (X : List Int) (came : Int) (rh rx : Option Nat) : Prop where
  hs : HS92 W gh gh rh M came
  rs : RfS W gx gx rx X
  n1 : rh ≠ some gx
  n2 : rx ≠ some gh
  n3 : ∀ b, rx = some b → rh ≠ some b
  n4 : gh ≠ gx
  bel : Below W0.heap.size W0 W
  l1 : W0.heap.size ≤ gh
  l2 : W0.heap.size ≤ gx
def Duo (W0 W : World) (gh gx : Nat) (M : List S92) (X : List Int) (came : Int) : Prop := ∃ rh rx, DuoAt W0 W gh gx M X came rh rx
section
variable {W0 W W1 : World} {gh gx : Nat} {M M1 : List S92} {X X1 : List Int} {came c1 : Int} {rh rx r1 : Option Nat}
theorem Duo.bel (h : Duo W0 W gh gx M X came) : Below W0.heap.size W0 W := by
  obtain ⟨rh, rx, d⟩ := h
  exact d.bel
theorem Duo.gx_ (h : Duo W0 W gh gx M X came) : gx < W.heap.size ∧ gh < W.heap.size := by
  obtain ⟨rh, rx, d⟩ := h
  exact ⟨d.rs.lt.1, d.hs.lt.1⟩
theorem Duo.refc (h : Duo W0 W gh gx M X came) : ∃ A c, W.cell? ⟨gx, 0, none⟩ = some (.slice A X.length c) := by
  obtain ⟨rh, rx, d⟩ := h
  obtain ⟨v, _, hb, hR, _⟩ := d.rs
  obtain ⟨A, c, rfl⟩ := Kd.R_slice hR
  exact ⟨A, c, (blk_cell hb 0).trans rfl⟩
theorem Duo.of_below (h : Duo W0 W gh gx M X came) (hb : Below W.heap.size W W1) : Duo W0 W1 gh gx M X came := by
  obtain ⟨rh, rx, d⟩ := h
  exact ⟨rh, rx, d.hs.below hb, d.rs.below hb, d.n1, d.n2, d.n3, d.n4, d.bel.trans (hb.mono (by have := d.hs.lt; have := d.l1; omega)), d.l1, d.l2⟩
theorem DuoAt.heap (d : DuoAt W0 W gh gx M X came rh rx) (k1 : HS92 W1 gh gh r1 M1 c1) (k2 : HpTo W W1 gh gh rh r1) : Duo W0 W1 gh gx M1 X c1 := by
  have hx := d.rs.row_
  have hl := d.rs.lt
  refine ⟨r1, rx, k1, d.rs.keep k2.keep (Ne.symm d.n4) (fun e => d.n1 e.symm) (fun b hb => ⟨fun e => d.n2 (by rw [hb, e]), fun e => d.n3 b hb e.symm⟩), ?_, d.n2, ?_, d.n4, d.bel.trans (k2.below.mono d.l1), d.l1, d.l2⟩
  · rcases k2.grow with e | ⟨b, e, hb⟩
    · rw [e]; exact d.n1
    · rw [e]
      intro e2
      injection e2 with e2
      omega
  · intro b hb
    rcases k2.grow with e | ⟨b2, e, hb2⟩
    · rw [e]; exact d.n3 b hb
    · rw [e]
      intro e2
      injection e2 with e2
      have := (hx b hb).2.1
      omega
theorem DuoAt.ref (d : DuoAt W0 W gh gx M X came rh rx) (k1 : RfS W1 gx gx r1 X1) (k2 : Fresh W r1) (k3 : Below gx W W1) (k4 : KeepBut W W1 gx none) : Duo W0 W1 gh gx M X1 came := by
  have hl := d.hs.lt
  have hr := d.hs.row_
  refine ⟨rh, r1, d.hs.keep rfl k4 d.n4 (by simp) (fun b hb => ⟨fun e => d.n1 (by rw [hb, e]), by simp⟩), k1, d.n1, ?_, ?_, d.n4, d.bel.trans (k3.mono d.l2), d.l1, d.l2⟩
  · rcases k2 with e | ⟨b, e, hb⟩
    · rw [e]; simp
    · rw [e]
      intro e2
      injection e2 with e2
      omega
  · intro b hb hrb
    rcases k2 with e | ⟨b2, e, hb2⟩
    · rw [e] at hb; cases hb
    · rw [e] at hb
      injection hb with hb
      have := (hr b hrb).2.1
      omega
theorem duo_len (h : Duo W0 W gh gx M X came) : Calls Try.prog 17 #[.pointer (some ⟨gh, 0, none⟩)] W fun e w' => e = .returned (.int .i64 M.length) ∧ w' = W := by
  obtain ⟨rh, rx, d⟩ := h
  exact len92_calls W gh gh rh M came d.hs
theorem duo_peek_some (h : Duo W0 W gh gx M X came) (hl : 0 < M.length) {x : Int} (hx : (hgt M 0).f0 = x) : Calls Try.prog 15 #[.pointer (some ⟨gh, 0, none⟩)] W fun e w' => e = .returned (.tuple #[.int .i64 x, .bool true]) ∧ w' = W := by
  obtain ⟨rh, rx, d⟩ := h
  exact hx ▸ peek92_some W gh gh rh M came d.hs hl
theorem duo_peek_none (h : Duo W0 W gh gx M X came) (hl : M.length = 0) : Calls Try.prog 15 #[.pointer (some ⟨gh, 0, none⟩)] W fun e w' => e = .returned (.tuple #[.int .i64 0, .bool false]) ∧ w' = W := by
  obtain ⟨rh, rx, d⟩ := h
  exact peek92_none W gh gh rh M came d.hs hl
theorem duo_pop_none (h : Duo W0 W gh gx M X came) (hl : M.length = 0) : Calls Try.prog 11 #[.pointer (some ⟨gh, 0, none⟩)] W fun e w' => e = .returned (.tuple #[.int .i64 0, .bool false]) ∧ w' = W := by
  obtain ⟨rh, rx, d⟩ := h
  exact pop92_none W gh gh rh M came d.hs hl
theorem duo_pop_some (h : Duo W0 W gh gx M X came) (hl : 0 < M.length) (hm : M.length < 1099511627776) {x : Int} (hx : (hgt M 0).f0 = x) : Calls Try.prog 11 #[.pointer (some ⟨gh, 0, none⟩)] W fun e w' => e = .returned (.tuple #[.int .i64 x, .bool true]) ∧ Duo W0 w' gh gx (popF ah92 M) X came := by
  obtain ⟨rh, rx, d⟩ := h
  exact (pop92_some W gh gh rh M came d.hs hl hm).mono fun e w' hh => ⟨by rw [hh.1, hx], d.heap hh.2.1 hh.2.2⟩
theorem duo_push (h : Duo W0 W gh gx M X came) (A : Option Addr) (c : Nat) (xs : List Int) (hC : Kd.C (Kd.int .i64) W0 A xs.length xs) (hc0 : 0 ≤ came) (hc1 : came + xs.length < 1099511627776) (hl : M.length + xs.length < 1099511627776) (hp : Hp ah92 M) : Calls Try.prog 14 #[.pointer (some ⟨gh, 0, none⟩), .slice A xs.length c] W fun e w' => e = .returned (.tuple #[]) ∧ Duo W0 w' gh gx (pushL ah92 mk92 M came xs) X (came + xs.length) := by
  obtain ⟨rh, rx, d⟩ := h
  exact (push92_calls W gh gh rh M came A c xs d.hs (C_keepB (fun h => h) (Kd.C_below hC d.bel) (C_ltB hC (by decide) d.l1 (fun k hk => Nat.le_trans d.l1 (d.hs.row_ k hk).1))) hc0 hc1 hl hp).mono fun e w' hh => by
    obtain ⟨h1, r2, h2, h3⟩ := hh
    exact ⟨h1, d.heap h2 h3⟩
theorem duo_drain (h : Duo W0 W gh gx M X came) (hp : Hp ah92 M) (hl : M.length < 1099511627776) {a : List Int} (ha : (drainF ah92 M.length M).map (·.f0) = a) : Calls Try.prog 13 #[.pointer (some ⟨gh, 0, none⟩)] W fun e w' => ∃ A c, e = .returned (.slice A a.length c) ∧ Kd.R (Kd.int .i64) 3 w' W.heap.size (fun k => k ≠ gx) (.slice A a.length c) a ∧ Duo W0 w' gh gx [] X came := by
  obtain ⟨rh, rx, d⟩ := h
  exact (drain92_calls W gh gh rh M came d.hs hp hl).mono fun e w' hh => by
    obtain ⟨v, h1, h2, h3, h4⟩ := hh
    rw [ha] at h2
    obtain ⟨A, c, rfl⟩ := Kd.R_slice h2
    exact ⟨A, c, h1, Kd.R_reok rfl h2 (fun k hk => by have := Kd.R_base h2 k hk; have := d.rs.lt.1; omega), d.heap h3 h4⟩
theorem duo_rpush (h : Duo W0 W gh gx M X came) (A : Option Addr) (c : Nat) (xs : List Int) (hC : Kd.C (Kd.int .i64) W0 A xs.length xs) (hl : X.length + xs.length < 1099511627776) : Calls Try.prog 10 #[.pointer (some ⟨gx, 0, none⟩), .slice A xs.length c] W fun e w' => e = .returned (.tuple #[]) ∧ Duo W0 w' gh gx M (X ++ xs) came := by
  obtain ⟨rh, rx, d⟩ := h
  exact (refPush_calls W gx gx rx X A c xs d.rs (Kd.C_below hC d.bel) hl).mono fun e w' hh => by
    obtain ⟨h1, r2, h2, h3, h4, h5⟩ := hh
    exact ⟨h1, d.ref h2 h3 h4 h5⟩
theorem duo_rpeek_none (h : Duo W0 W gh gx M X came) (hX : X = []) : Calls Try.prog 16 #[.pointer (some ⟨gx, 0, none⟩)] W fun e w' => e = .returned (.tuple #[.int .i64 0, .bool false]) ∧ Drawn0 W w' := by
  subst hX
  obtain ⟨rh, rx, d⟩ := h
  exact refPeek_none W gx gx rx d.rs
theorem duo_rpop_none (h : Duo W0 W gh gx M X came) (hX : X = []) : Calls Try.prog 12 #[.pointer (some ⟨gx, 0, none⟩)] W fun e w' => e = .returned (.tuple #[.int .i64 0, .bool false]) ∧ Drawn0 W w' := by
  subst hX
  obtain ⟨rh, rx, d⟩ := h
  exact refPop_none W gx gx rx d.rs
theorem duo_rpeek_some (h : Duo W0 W gh gx M X came) (hl : X.length < 1099511627776) {j : Nat} (hj : LeastAt X j) {x : Int} (hx : X.getD j 0 = x) : Calls Try.prog 16 #[.pointer (some ⟨gx, 0, none⟩)] W fun e w' => e = .returned (.tuple #[.int .i64 x, .bool true]) ∧ Drawn0 W w' := by
  obtain ⟨rh, rx, d⟩ := h
  exact hx ▸ refPeek_some W gx gx rx X j d.rs hl hj
theorem duo_rpop_some (h : Duo W0 W gh gx M X came) (hl : X.length < 1099511627776) {j : Nat} (hj : LeastAt X j) {x : Int} (hx : X.getD j 0 = x) : Calls Try.prog 12 #[.pointer (some ⟨gx, 0, none⟩)] W fun e w' => e = .returned (.tuple #[.int .i64 x, .bool true]) ∧ Duo W0 w' gh gx M (X.take j ++ X.drop (j + 1)) came ∧ KeepBut W w' gx none := by
  obtain ⟨rh, rx, d⟩ := h
  exact (refPop_some W gx gx rx X j d.rs hl hj).mono fun e w' hh => by
    obtain ⟨h1, r2, h2, h3, h4, h5⟩ := hh
    exact ⟨by rw [h1, hx], d.ref h2 h3 h4 h5, h5⟩
end
/-- both hold the same -/
structure Alike (M Q : List S92) (X : List Int) (came : Int) : Prop where
  hp : Hp ah92 M
  pe : M.Perm Q
  ri : Rise (fun y : S92 => y.f1) Q
  lt : ∀ y ∈ Q, y.f1 < came
  eq : X = Q.map (·.f0)
theorem eraseIdx_mp : ∀ (Q : List S92) (j : Nat), (Q.map (·.f0)).eraseIdx j = (Q.eraseIdx j).map (·.f0)
  | [], _ => rfl
  | _ :: _, 0 => rfl
  | x :: Q, j + 1 => by
    show x.f0 :: (Q.map (·.f0)).eraseIdx j = x.f0 :: (Q.eraseIdx j).map (·.f0)
    rw [eraseIdx_mp Q j]
theorem Alike.len {M Q : List S92} {X : List Int} {came : Int} (h : Alike M Q X came) : M.length = X.length := by rw [h.eq, List.length_map, h.pe.length_eq]
theorem exists_least : ∀ X : List Int, X ≠ [] → ∃ j, LeastAt X j
  | [], h => absurd rfl h
  | [x], _ => ⟨0, by simp, fun i hi => by obtain rfl : i = 0 := by simp at hi; omega
                                          exact Int.le_refl _, fun i hi => absurd hi (by omega)⟩
  | x :: y :: X, _ => by
    obtain ⟨j, h1, h2, h3⟩ := exists_least (y :: X) (by simp)
    by_cases hx : kT x ≤ kT ((y :: X).getD j 0)
    · refine ⟨0, by simp, fun i hi => ?_, fun i hi => absurd hi (by omega)⟩
      cases i with
      | zero => exact Int.le_refl _
      | succ i => exact Int.le_trans hx (h2 i (by simpa using hi))
    · refine ⟨j + 1, by simpa using h1, fun i hi => ?_, fun i hi => ?_⟩
      · cases i with
        | zero => show kT ((y :: X).getD j 0) ≤ kT x; omega
        | succ i => exact h2 i (by simpa using hi)
      · cases i with
        | zero => show kT ((y :: X).getD j 0) < kT x; omega
        | succ i => exact h3 i (by omega)
theorem Alike.pop {M Q : List S92} {X : List Int} {came : Int} (h : Alike M Q X came) {j : Nat} (hj : LeastAt X j) : (hgt M 0).f0 = X.getD j 0 ∧ 0 < M.length ∧ Alike (popF ah92 M) (Q.eraseIdx j) (X.take j ++ X.drop (j + 1)) came ∧ (popF ah92 M).length + 1 = M.length := by
  have hjQ : j < Q.length := by have := hj.1; rw [h.eq, List.length_map] at this; exact this
  have hX : ∀ i (hi : i < Q.length), X.getD i 0 = Q[i].f0 := fun i hi => by
    rw [h.eq, List.getD_eq_getElem?_getD, List.getElem?_map, List.getElem?_eq_getElem hi]
    rfl
  have hlen : X.length = Q.length := by rw [h.eq, List.length_map]
  have := pop_queue (key := fun y : S92 => wrap64 (y.f0.tdiv 10)) (at_ := fun y => y.f1) (L := M) (Q := Q) (j := j) h.hp h.pe h.ri hjQ
    (fun i hi => by have := hj.2.1 i (by omega); rwa [hX j hjQ, hX i hi] at this)
    (fun i hi => by have := hj.2.2 i hi; rwa [hX j hjQ, hX i (by omega)] at this)
  have hl : 0 < M.length := by rw [h.pe.length_eq]; omega
  refine ⟨by rw [this.1, hX j hjQ], hl, ⟨this.2.1, this.2.2, h.ri.erase j, fun y hy => h.lt y ((List.eraseIdx_sublist Q j).subset hy), ?_⟩, popF_len hord92 M h.hp hl⟩
  rw [h.eq, ← List.eraseIdx_eq_take_drop_succ, eraseIdx_mp]
theorem Alike.push {M Q : List S92} {X : List Int} {came : Int} (h : Alike M Q X came) (xs : List Int) : Alike (pushL ah92 mk92 M came xs) (Q ++ stamp mk92 came xs) (X ++ xs) (came + xs.length) := by
  have hs := pushL_spec mk92 hord92 xs M Q came h.hp h.pe
  have hr := stamp_rise mk92 (fun y : S92 => y.f1) (fun _ _ => rfl) xs came
  have hm : ∀ (xs : List Int) (c : Int), (stamp mk92 c xs).map (·.f0) = xs := by
    intro xs
    induction xs with
    | nil => intro c; rfl
    | cons x xs ih => intro c; show x :: (stamp mk92 (c + 1) xs).map (·.f0) = _; rw [ih]
  refine ⟨hs.1, hs.2, List.pairwise_append.2 ⟨h.ri, hr.1, fun a ha b hb => by have h1 := h.lt a ha; have h2 := (hr.2 b hb).1; exact Int.lt_of_lt_of_le h1 h2⟩, fun y hy => ?_, by rw [List.map_append, hm, h.eq]⟩
  rcases List.mem_append.1 hy with hy | hy
  · have := h.lt y hy; omega
  · exact (hr.2 y hy).2
theorem Alike.nil (came : Int) : Alike [] [] [] came := ⟨Hp.nil, List.Perm.refl _, List.Pairwise.nil, fun y hy => by simp at hy, rfl⟩
end Go.Proofs.Ytbmmlkifhhpjcaa.X
