-- Laid by xprint.py, a program of this session's, out of the translation.
import Derived.Test.YtifcnblgpnfehaaX0
namespace Go.Proofs.Ytifcnblgpnfehaa.X
open Go.RowKit Go.Proofs.YtifcnblgpnfehaaW.PrintWords Go.Proofs.YtifcnblgpnfehaaW.PrintLast Go.Proofs.YtifcnblgpnfehaaW.PrintMore
attribute [local go_sem] max2_int min2_int max_two min_two max_three min_three max_four min_four x_isSome   -- for this text's walks alone
set_option linter.unusedVariables false
set_option linter.unusedSimpArgs false

/-! ### lex_lexer_add: function 44 -/
/-- the lexer at block g: its text, its place, its words (a row of the call's own) -/
def LexS (W : World) (g base : Nat) (s : ByteArray) (at_ : Int) (l : List S33) : Prop :=
  ∃ v, W.heap[g]? = some (.cells #[.string s, .int .i64 at_, v] 65 (0, 0)) ∧ Kd.R k33 33 W base (fun k => k ≠ g) v l ∧ base ≤ g
theorem LexS.drewN {W : World} {g base : Nat} {s : ByteArray} {at_ : Int} {l : List S33} (h : LexS W g base s at_ l) (n : Nat) : LexS (W.drewN n) g base s at_ l := by
  obtain ⟨v, h1, h2, h3⟩ := h
  exact ⟨v, h1, Kd.R_drewN h2 n, h3⟩
theorem LexS.below {W W1 : World} {g base : Nat} {s : ByteArray} {at_ : Int} {l : List S33} (h : LexS W g base s at_ l) (hb : Below W.heap.size W W1) : LexS W1 g base s at_ l := by
  obtain ⟨v, h1, h2, h3⟩ := h
  exact ⟨v, (hb.block _ (Array.getElem?_eq_some_iff.1 h1).1).trans h1, Kd.R_below h2 hb, h3⟩
set_option maxHeartbeats 4000000 in
theorem lex_rest_calls (W : World) (g base : Nat) (s : ByteArray) (at_ : Int) (l : List S33) (hS : LexS W g base s at_ l) (h0 : 0 ≤ at_) (h1 : at_ ≤ (s.size : Int)) (hm : s.size ≤ 1024) :
    Calls Try.prog 43 #[.pointer (some ⟨g, 0, none⟩)] W fun e w' => e = .returned (.string (s.extract at_.toNat s.size)) ∧ Drawn0 W w' := by
  obtain ⟨v, hb, _, _⟩ := hS
  have hc0 : W.cell? ⟨g, 0, none⟩ = some (.string s) := (blk_cell hb 0).trans rfl
  have hc1 : W.cell? ⟨g, 1, none⟩ = some (.int .i64 at_) := (blk_cell hb 1).trans rfl
  clear hb
  go_enter Try.func43, Try.ntmps43
  go_wp2
  repeat (go_quiet (fail); try go_wp2)
  go_ret
  exact ⟨rfl, by repeat (first | exact Drawn0.refl _ | apply Drawn0.step)⟩
theorem LexS.at_ {W W1 : World} {g base : Nat} {s : ByteArray} {a : Int} {l : List S33} {n : Nat} (h : LexS W g base s a l) (e : W.drewN n = W1) : LexS W1 g base s a l := e ▸ h.drewN n
theorem LexS.set {W : World} {g base : Nat} {s : ByteArray} {a : Int} {l : List S33} (h : LexS W g base s a l) (b : Int) : LexS (W.setCell ⟨g, 1, none⟩ (.int .i64 b)) g base s b l := by
  obtain ⟨v, h1, h2, h3⟩ := h
  exact ⟨v, blk_put h1 1 (.int .i64 b) rfl, Kd.R_far (p := ⟨g, 1, none⟩) h2 (fun _ hk => hk) _, h3⟩
set_option maxHeartbeats 4000000 in
theorem lex_take_calls (W : World) (g base : Nat) (s : ByteArray) (a n : Int) (l : List S33) (hS : LexS W g base s a l) (h0 : 0 ≤ a) (hn : 0 ≤ n) (h1 : a + n ≤ (s.size : Int)) (hm : s.size ≤ 1024) :
    Calls Try.prog 34 #[.pointer (some ⟨g, 0, none⟩), .int .i64 n] W fun e w' => (∃ x, e = .returned (.string x)) ∧ LexS w' g base s (a + n) l ∧ Below base W w' := by
  have HS := Aside0.mk hS
  obtain ⟨v, hb, hR, hg⟩ := hS
  have HG := Aside0.mk hg
  have hc0 : W.cell? ⟨g, 0, none⟩ = some (.string s) := (blk_cell hb 0).trans rfl
  have hc1 : W.cell? ⟨g, 1, none⟩ = some (.int .i64 a) := (blk_cell hb 1).trans rfl
  have hf1 : W.frozen? ⟨g, 1, none⟩ = false := blk_frozen hb 1
  clear hb hR hg
  go_enter Try.func34, Try.ntmps34
  go_wp2
  have HT := Aside0.mk (HS.out.set (a + n))
  have HBW := Aside0.mk ((Below.refl base W).setCell (p := ⟨g, 1, none⟩) HG.out (.int .i64 (a + n)))
  have h2 : a ≤ a + n := by omega
  have h3 : 0 ≤ a + n := by omega
  generalize W.setCell ⟨g, 1, none⟩ (.int .i64 (a + n)) = W1 at HT HBW ⊢
  clear hc0 hc1 hf1
  have hc0 : W1.cell? ⟨g, 0, none⟩ = some (.string s) := by obtain ⟨v, hb, _⟩ := HT.out; exact (blk_cell hb 0).trans rfl
  have hc1 : W1.cell? ⟨g, 1, none⟩ = some (.int .i64 (a + n)) := by obtain ⟨v, hb, _⟩ := HT.out; exact (blk_cell hb 1).trans rfl
  go_quiet (fail)
  try go_wp2
  go_ret
  refine ⟨⟨_, rfl⟩, ?_, ?_⟩
  · exact HT.out.drewN _
  · exact pw_below_drewN HBW.out _
def lex_add.T1 : Bool × List (List Nat × List Nat) := (true, [([], []), ([], []), ([1], [1]), ([2], [2]), ([3], [3]), ([], []), ([], []), ([], []), ([7], [7]), ([8], [8]), ([9], [9]), ([10], [10]), ([5, 6, 11], [5, 6, 11]), ([12], [12]), ([4, 13], [4, 13]), ([0, 0, 1, 2, 3, 4, 5, 6, 7, 8, 9, 10, 11, 12, 13, 14], [0]), ([15, 0, 1, 2, 3, 4, 5, 6, 7, 8, 9, 10, 11, 12, 13, 14], [15]), ([16, 14, 14, 0, 1, 2, 3, 4, 5, 6, 7, 8, 9, 10, 11, 12, 13, 14], [14, 16])])
def lex_add.B1 : List Nat := [0, 0, 2, 6, 14, 0, 0, 0, 128, 384, 896, 1920, 4064, 8160, 16382, 32767, 65535, 131071]
theorem lex_add.tab1 : rtab .any (opsOf Try.f44 1) = lex_add.T1 := by kernel_rfl
theorem lex_add.bits1 : waitsOk lex_add.T1.2 lex_add.B1 = true := by kernel_rfl
theorem k33_KM {W : World} {base : Nat} {ok : Nat → Prop} (x : S33) (cs : List Value) (h : k33.K W x cs) : k33.M W base ok x cs := by
  obtain rfl := k33_open h
  exact k33_mkM _ _ _ x
set_option maxHeartbeats 8000000 in
set_option maxRecDepth 100000 in
theorem lex_add_calls (W : World) (g base : Nat) (s : ByteArray) (a : Int) (l : List S33) (kind n : Int) (text : ByteArray) (hS : LexS W g base s a l) (hBase : base ≤ W.heap.size) (h0 : 0 ≤ a) (hn : 0 ≤ n) (h1 : a + n ≤ (s.size : Int)) (hm : s.size ≤ 1024) (hl : l.length < 4398046511104) :
    Calls Try.prog 44 #[.pointer (some ⟨g, 0, none⟩), .int .i64 kind, .string text, .int .i64 n] W fun e w' => e = .returned (.bool true) ∧ LexS w' g base s (a + n) (l ++ [⟨kind, text, a⟩]) ∧ Below base W w' := by
  have HS := Aside0.mk hS
  obtain ⟨v, hb, hR, hg⟩ := hS
  have HG := Aside0.mk hg
  have HR := Aside0.mk hR
  have HBS := Aside0.mk hBase
  have HL := Aside0.mk hl
  have HB := Aside0.mk (Below.refl base W)
  clear hR hg hBase hl
  have hBk := Aside0.mk hb
  clear hb
  go_enter Try.func44, Try.ntmps44
  go_wp2
  replace HR := Aside0.mk (Kd.R_drew HR.out)
  replace HB := Aside0.mk (below_drew HB.out)
  replace HBS : Aside0 (base ≤ W.drew.heap.size) := HBS
  replace hBk : Aside0 (W.drew.heap[g]? = _) := hBk
  have HS_ : W.drew.heap[g]? = some (.cells #[.string s, .int .i64 a, v] 65 (0, 0)) := hBk.out
  refine start_ (n := 18) (S := (fun w' => w'.heap[g]? = some (.cells #[.string s, .int .i64 a, v] 65 (0, 0)))) (ds := [17]) #[false, false, false, false, false, false, false, false, false, false, false, false, false, false, false, false, false, false] (by kernel_rfl) rfl rfl HS_ (fun hHeld => ?_); refine with_tabW lex_add.tab1 lex_add.bits1 (fun HT_ HW_ => ?_)
  generalize W.drew = W1 at HS_ HR HBS HB hBk hHeld ⊢
  refine pure_ (i := 0) (N := some 9) (v := ?_) (a' := ?_) #[true, false, false, false, false, false, false, false, false, false, false, false, false, false, false, false, false, false] rfl rfl (any_of HT_.out (by kernel_rfl)) (fun _ _ _ h => h) (Or.inl ⟨by rfl, ?_⟩) ?_ ?_
  rotate_left
  · intro w'
    go_simp
    with_reducible rfl
  rotate_left
  · simp only [Act.put, List.setIfInBounds_toArray, List.set_cons_zero, List.set_cons_succ, i64_w, i32_w]
    rfl
  refine pure_ (i := 1) (N := some 10) (v := ?_) (a' := ?_) #[true, true, false, false, false, false, false, false, false, false, false, false, false, false, false, false, false, false] rfl rfl (any_of HT_.out (by kernel_rfl)) (fun _ _ _ h => h) (Or.inl ⟨by rfl, ?_⟩) ?_ ?_
  rotate_left
  · intro w'
    go_simp
    with_reducible rfl
  rotate_left
  · simp only [Act.put, List.setIfInBounds_toArray, List.set_cons_zero, List.set_cons_succ, i64_w, i32_w]
    rfl
  refine pure_ (i := 2) (N := some 11) (v := ?_) (a' := ?_) #[true, true, true, false, false, false, false, false, false, false, false, false, false, false, false, false, false, false] rfl rfl (any_of HT_.out (by kernel_rfl)) (fun _ _ _ h => h) (Or.inl ⟨by rfl, ?_⟩) ?_ ?_
  rotate_left
  · intro w'
    go_simp
    with_reducible rfl
  rotate_left
  · simp only [Act.put, List.setIfInBounds_toArray, List.set_cons_zero, List.set_cons_succ, i64_w, i32_w]
    rfl
  refine pure_ (i := 3) (N := some 12) (v := ?_) (a' := ?_) #[true, true, true, true, false, false, false, false, false, false, false, false, false, false, false, false, false, false] rfl rfl (any_of HT_.out (by kernel_rfl)) (fun _ _ _ h => h) (Or.inl ⟨by rfl, ?_⟩) ?_ ?_
  rotate_left
  · intro w'
    go_simp
    with_reducible rfl
  rotate_left
  · simp only [Act.put, List.setIfInBounds_toArray, List.set_cons_zero, List.set_cons_succ, i64_w, i32_w]
    rfl
  refine pure_ (i := 5) (N := some 14) (v := ?_) (a' := ?_) #[true, true, true, true, false, true, false, false, false, false, false, false, false, false, false, false, false, false] rfl rfl (any_of HT_.out (by kernel_rfl)) (fun _ _ _ h => h) (Or.inl ⟨by rfl, ?_⟩) ?_ ?_
  rotate_left
  · intro w'
    go_simp
    with_reducible rfl
  rotate_left
  · simp only [Act.put, List.setIfInBounds_toArray, List.set_cons_zero, List.set_cons_succ, i64_w, i32_w]
    rfl
  refine pure_ (i := 6) (N := some 15) (v := ?_) (a' := ?_) #[true, true, true, true, false, true, true, false, false, false, false, false, false, false, false, false, false, false] rfl rfl (any_of HT_.out (by kernel_rfl)) (fun _ _ _ h => h) (Or.inl ⟨by rfl, ?_⟩) ?_ ?_
  rotate_left
  · intro w'
    go_simp
    with_reducible rfl
  rotate_left
  · simp only [Act.put, List.setIfInBounds_toArray, List.set_cons_zero, List.set_cons_succ, i64_w, i32_w]
    rfl
  refine pure_ (i := 7) (N := some 16) (v := ?_) (a' := ?_) #[true, true, true, true, false, true, true, true, false, false, false, false, false, false, false, false, false, false] rfl rfl (any_of HT_.out (by kernel_rfl)) (fun _ _ _ h => h) (Or.inl ⟨by rfl, ?_⟩) ?_ ?_
  rotate_left
  · intro w'
    go_simp
    with_reducible rfl
  rotate_left
  · simp only [Act.put, List.setIfInBounds_toArray, List.set_cons_zero, List.set_cons_succ, i64_w, i32_w]
    rfl
  refine pure_ (i := 8) (N := some 17) (v := ?_) (a' := ?_) #[true, true, true, true, false, true, true, true, true, false, false, false, false, false, false, false, false, false] rfl rfl (any_of HT_.out (by kernel_rfl)) (fun _ _ _ h => h) (Or.inl ⟨by rfl, ?_⟩) ?_ ?_
  rotate_left
  · intro w'
    go_simp
    with_reducible rfl
  rotate_left
  · simp only [Act.put, List.setIfInBounds_toArray, List.set_cons_zero, List.set_cons_succ, i64_w, i32_w]
    rfl
  refine pure_ (i := 9) (N := some 18) (v := ?_) (a' := ?_) #[true, true, true, true, false, true, true, true, true, true, false, false, false, false, false, false, false, false] rfl rfl (any_of HT_.out (by kernel_rfl)) (fun _ _ _ h => h) (Or.inl ⟨by rfl, ?_⟩) ?_ ?_
  rotate_left
  · intro w'
    go_simp
    with_reducible rfl
  rotate_left
  · simp only [Act.put, List.setIfInBounds_toArray, List.set_cons_zero, List.set_cons_succ, i64_w, i32_w]
    rfl
  refine pure_ (i := 10) (N := some 19) (v := ?_) (a' := ?_) #[true, true, true, true, false, true, true, true, true, true, true, false, false, false, false, false, false, false] rfl rfl (any_of HT_.out (by kernel_rfl)) (fun _ _ _ h => h) (Or.inl ⟨by rfl, ?_⟩) ?_ ?_
  rotate_left
  · intro w'
    go_simp
    with_reducible rfl
  rotate_left
  · simp only [Act.put, List.setIfInBounds_toArray, List.set_cons_zero, List.set_cons_succ, i64_w, i32_w]
    rfl
  refine take_ (i := 4) (N := some 13) (v := ?_) (a' := ?_) #[true, true, true, true, true, true, true, true, true, true, true, false, false, false, false, false, false, false] rfl rfl (take_ofW HT_.out HW_.out (by kernel_rfl)) (fun _ _ _ h => h) (Or.inl ⟨by rfl, ?_⟩) hHeld ?_ ?_
  rotate_left
  · intro w' hS_
    have hc1_ : w'.cell? ⟨g, 1, none⟩ = some (.int .i64 a) := (blk_cell hS_ 1).trans rfl
    have hc2_ : w'.cell? ⟨g, 2, none⟩ = some v := (blk_cell hS_ 2).trans rfl
    go_simp
    with_reducible rfl
  rotate_left
  · simp only [Act.put, List.setIfInBounds_toArray, List.set_cons_zero, List.set_cons_succ, i64_w, i32_w]
    rfl
  refine take_ (i := 11) (N := some 20) (v := ?_) (a' := ?_) #[true, true, true, true, true, true, true, true, true, true, true, true, false, false, false, false, false, false] rfl rfl (take_ofW HT_.out HW_.out (by kernel_rfl)) (fun _ _ _ h => h) (Or.inl ⟨by rfl, ?_⟩) hHeld ?_ ?_
  rotate_left
  · intro w' hS_
    have hc1_ : w'.cell? ⟨g, 1, none⟩ = some (.int .i64 a) := (blk_cell hS_ 1).trans rfl
    have hc2_ : w'.cell? ⟨g, 2, none⟩ = some v := (blk_cell hS_ 2).trans rfl
    go_simp
    with_reducible rfl
  rotate_left
  · simp only [Act.put, List.setIfInBounds_toArray, List.set_cons_zero, List.set_cons_succ, i64_w, i32_w]
    rfl
  refine pure_ (i := 12) (N := some 21) (v := ?_) (a' := ?_) #[true, true, true, true, true, true, true, true, true, true, true, true, true, false, false, false, false, false] rfl rfl (any_of HT_.out (by kernel_rfl)) (fun _ _ _ h => h) (Or.inl ⟨by rfl, ?_⟩) ?_ ?_
  rotate_left
  · intro w'
    go_simp
    with_reducible rfl
  rotate_left
  · simp only [Act.put, List.setIfInBounds_toArray, List.set_cons_zero, List.set_cons_succ, i64_w, i32_w]
    rfl
  refine one_ (i := 13) (N := some 22) #[true, true, true, true, true, true, true, true, true, true, true, true, true, true, false, false, false, false] rfl rfl (one_of HT_.out (by kernel_rfl)) (by decide) (fun K hK => ?_)
  refine event_step (by rfl) (w1 := W1.alloc (.cells #[.int .i64 kind, .string text, .int .i64 a] 33)) (v := .slice (some ⟨W1.heap.size, 0, none⟩) 1 1) (by first | (go_simp; done) | (go_simp; rfl)) ?_
  refine hK.out _ _ ((below_alloc (Below.refl _ _) _).block _ (Array.getElem?_eq_some_iff.1 hBk.out).1 |>.trans hBk.out) (fun hHeld => ?_)
  clear hK K
  refine norm_ (a' := ?_) ?_ ?_
  rotate_left
  · show Act.put _ (some 22) _ = _
    simp only [Act.put, List.setIfInBounds_toArray, List.set_cons_zero, List.set_cons_succ, i64_w, i32_w]
    rfl
  refine one_ (i := 14) (N := some 23) #[true, true, true, true, true, true, true, true, true, true, true, true, true, true, true, false, false, false] rfl rfl (one_of HT_.out (by kernel_rfl)) (by decide) (fun K hK => ?_)
  refine Kd.R_append_step k33 (w0 := W) base (by rfl) (.tmp 13) (.tmp 22) 25 33 (.agg #[(.int .i64 0), (.string ⟨#[]⟩), (.int .i64 0)]) 32 rfl Try.underlying25 info33 rfl (by decide) (by omega) v l (⟨kind, text, a⟩ : S33) [.int .i64 kind, .string text, .int .i64 a] (fun k_ => k_ ≠ g) (fun _ => False) rfl (by first | (go_simp; done) | (go_simp; rfl)) ?aP (fun _ hk => hk.elim) ?aF HR.out HB.out HBS.out ?aL ?_
  case aP => exact k33_mkM _ _ _ (⟨kind, text, a⟩ : S33)
  case aF => intro k_ hk; have := (Array.getElem?_eq_some_iff.1 hBk.out).1; omega
  case aL => have := HL.out; omega
  intro v2 w2 ho hb hg2 hat
  have hbk2 : w2.heap[g]? = some (.cells #[.string s, .int .i64 a, v] 65 (0, 0)) := (hg2.block g (Array.getElem?_eq_some_iff.1 hBk.out).1 (fun e_ => HR.out.1 g e_.symm rfl)).trans hBk.out
  have hs2 : base ≤ w2.heap.size := Nat.le_trans HBS.out hg2.size
  refine hK.out _ _ hbk2 (fun hHeld => ?_)
  clear hK K
  refine norm_ (a' := ?_) ?_ ?_
  rotate_left
  · show Act.put _ (some 23) _ = _
    simp only [Act.put, List.setIfInBounds_toArray, List.set_cons_zero, List.set_cons_succ, i64_w, i32_w]
    rfl
  refine pure_ (i := 15) (N := some 24) (v := ?_) (a' := ?_) #[true, true, true, true, true, true, true, true, true, true, true, true, true, true, true, true, false, false] rfl rfl (any_of HT_.out (by kernel_rfl)) (fun _ _ _ h => h) (Or.inl ⟨by rfl, ?_⟩) ?_ ?_
  rotate_left
  · intro w'
    go_simp
    with_reducible rfl
  rotate_left
  · simp only [Act.put, List.setIfInBounds_toArray, List.set_cons_zero, List.set_cons_succ, i64_w, i32_w]
    rfl
  refine pure_ (i := 16) (N := some 25) (v := ?_) (a' := ?_) #[true, true, true, true, true, true, true, true, true, true, true, true, true, true, true, true, true, false] rfl rfl (any_of HT_.out (by kernel_rfl)) (fun _ _ _ h => h) (Or.inl ⟨by rfl, ?_⟩) ?_ ?_
  rotate_left
  · intro w'
    go_simp
    with_reducible rfl
  rotate_left
  · simp only [Act.put, List.setIfInBounds_toArray, List.set_cons_zero, List.set_cons_succ, i64_w, i32_w]
    rfl
  refine last_ (i := 17) (N := none) #[true, true, true, true, true, true, true, true, true, true, true, true, true, true, true, true, true, true] rfl rfl (one_of HT_.out (by kernel_rfl)) (by decide) (fun K hK => ?_)
  obtain ⟨A2, c2, rfl⟩ := Kd.R_slice ho
  have hc2_ : w2.cell? ⟨g, 2, none⟩ = some v := (blk_cell hbk2 2).trans rfl
  have hf2_ : w2.frozen? ⟨g, 2, none⟩ = false := blk_frozen hbk2 2
  refine x_store_step (by rfl) rfl (w1 := w2.setCell ⟨g, 2, none⟩ (.slice A2 (l ++ [(⟨kind, text, a⟩ : S33)]).length c2)) (by first | (go_simp; done) | (go_simp; rfl)) ?_
  refine hK.out _ _ ?_
  clear hK K
  refine done_ (done_of HT_.out (by kernel_rfl)) ?_
  have HS3 : Aside0 (LexS (w2.setCell ⟨g, 2, none⟩ (.slice A2 (l ++ [(⟨kind, text, a⟩ : S33)]).length c2)) g base s a (l ++ [⟨kind, text, a⟩])) :=
    ⟨_, blk_put hbk2 2 _ rfl, Kd.R_far (p := ⟨g, 2, none⟩) ho (fun _ hk => hk) _, HG.out⟩
  have HB3 := Aside0.mk (hb.setCell (p := ⟨g, 2, none⟩) HG.out (.slice A2 (l ++ [(⟨kind, text, a⟩ : S33)]).length c2))
  generalize w2.setCell ⟨g, 2, none⟩ (.slice A2 (l ++ [(⟨kind, text, a⟩ : S33)]).length c2) = w3 at HS3 HB3 ⊢
  clear hc2_ hf2_
  go_wp2_with (go_at_call 34; refine (lex_take_calls _ g base s a n _ HS3.out h0 hn h1 hm).mono ?_; rintro e w4 ⟨⟨x4, rfl⟩, hS4, hB4⟩; have HS4 := Aside0.mk hS4; have HB4 := Aside0.mk (HB3.out.trans hB4); clear hS4 hB4)
  go_ret
  exact ⟨rfl, HS4.out, HB4.out⟩

/-! ### lex_in: function 45 -/
def lex_in.l0 : Nat → Int → List ByteArray → Int → Int → Option (Bool)
  | 0, _, _, _, _ => none
  | k + 1, x0, x7, x8, x9 => if x9 < x8 then (if 0 ≤ x9 then (if x9 < (x7.length : Int) then (if 0 < ((rdOf ByteArray.empty x7 x9).size : Int) then (if x0 ≥ (bt (rdOf ByteArray.empty x7 x9) 0) then (if 0 ≤ (wrap64 (((rdOf ByteArray.empty x7 x9).size : Int) - 1)) then (if (wrap64 (((rdOf ByteArray.empty x7 x9).size : Int) - 1)) < ((rdOf ByteArray.empty x7 x9).size : Int) then (if x0 ≤ (bt (rdOf ByteArray.empty x7 x9) (wrap64 (((rdOf ByteArray.empty x7 x9).size : Int) - 1))) then (some true) else (lex_in.l0 k x0 x7 x8 (wrap64 (x9 + 1)))) else (none)) else (none)) else (lex_in.l0 k x0 x7 x8 (wrap64 (x9 + 1)))) else (none)) else (none)) else (none)) else (some false)
def lex_in.f (k : Nat) (a0 : Int) (l1 : List ByteArray) : Option (Bool) := lex_in.l0 k a0 l1 (l1.length : Int) 0
theorem lex_in.mono_l : ∀ k, (∀ y0 y1 y2 y3, LeO (lex_in.l0 k y0 y1 y2 y3) (lex_in.l0 (k + 1) y0 y1 y2 y3))
  | 0 => fun _ _ _ _ r h => by simp [lex_in.l0] at h
  | k + 1 => by
    have ih0 := lex_in.mono_l k
    · intro y0 y1 y2 y3
      unfold lex_in.l0
      repeat' first
      | (with_reducible exact ih0 _ _ _ _)
      | (with_reducible exact LeO.refl _)
      | (with_reducible exact LeO.none _)
      | (with_reducible refine LeO.ite ?_ ?_)
      | (with_reducible refine LeO.bind ?_ (fun _ => ?_))
      | exact ih0 _ _ _ _
      | exact LeO.none _
      | refine LeO.ite ?_ ?_
      | refine LeO.bind ?_ (fun _ => ?_)
theorem lex_in.mono : ∀ a0 a1 k, LeO (lex_in.f k a0 a1) (lex_in.f (k + 1) a0 a1) := by
  intro a0 a1 k
  have ih0 := lex_in.mono_l k
  unfold lex_in.f
  repeat' first
      | (with_reducible exact ih0 _ _ _ _)
      | (with_reducible exact LeO.refl _)
      | (with_reducible exact LeO.none _)
      | (with_reducible refine LeO.ite ?_ ?_)
      | (with_reducible refine LeO.bind ?_ (fun _ => ?_))
      | exact ih0 _ _ _ _
      | exact LeO.none _
      | refine LeO.ite ?_ ?_
      | refine LeO.bind ?_ (fun _ => ?_)
set_option maxHeartbeats 8000000 in
set_option maxRecDepth 100000 in
theorem lex_in.calls (k : Nat) (a0 : Int) (A1 : Option Addr) (c1 : Nat) (l1 : List ByteArray) (r : Bool) (w : World) (hr1 : Kd.C Kd.string w A1 l1.length l1) (hc1 : l1.length ≤ c1) (h : lex_in.f k a0 l1 = some r) :
    Calls Try.prog 45 #[.int .u8 a0, .slice A1 l1.length c1] w fun e w' => e = .returned (.bool r) ∧ Drawn0 w w' := by
  have HR1 := Aside0.mk hr1
  have HC1 := Aside0.mk hc1
  clear hr1 hc1
  have H : (lex_in.l0 k a0 l1 (l1.length : Int) 0) = some r := h
  clear h
  have H' := Aside0.mk H
  clear H
  go_enter Try.func45, Try.ntmps45
  go_wp2
  go_loopg [9] k (fun kq v9 w' => ∃ (x9_1 : Int), v9 = .int .i64 x9_1 ∧ Aside0 (lex_in.l0 kq a0 l1 (l1.length : Int) x9_1 = some r) ∧ Aside0 (kq ≤ k) ∧ Drawn0 w w')
  case atStart => exact ⟨(0), (by first | rfl | (simp; done) | (simp [*]; done)), H', ⟨Nat.le_refl _⟩, by repeat (first | exact Drawn0.refl _ | apply Drawn0.step)⟩
  case round =>
    clear H'
    try clear c1
    try clear p2
    obtain ⟨x9_1, rfl, HA, HK1, ⟨m1, rfl⟩⟩ := hrel
    cases gk with
    | zero => exact absurd HA.out (by simp [lex_in.l0])
    | succ k1 =>
      have H := HA.out
      clear HA
      simp only [lex_in.l0] at H
      by_cases c3 : x9_1 < (l1.length : Int)
      · rw [if_pos c3] at H
        have c3b0 : decide (x9_1 < (l1.length : Int)) = true := decide_eq_true c3
        clear c3
        by_cases c4 : 0 ≤ x9_1
        · rw [if_pos c4] at H
          have c4b0 : decide (0 ≤ x9_1) = true := decide_eq_true c4
          clear c4
          by_cases c5 : x9_1 < (l1.length : Int)
          · rw [if_pos c5] at H
            have c5b0 : decide (x9_1 < (l1.length : Int)) = true := decide_eq_true c5
            clear c5
            by_cases c6 : 0 < ((rdOf ByteArray.empty l1 x9_1).size : Int)
            · rw [if_pos c6] at H
              have c6b0 : decide (0 < ((rdOf ByteArray.empty l1 x9_1).size : Int)) = true := decide_eq_true c6
              have c6b1 : decide (0 < (rdOf ByteArray.empty l1 x9_1).size) = true := decide_eq_true (by omega)
              clear c6
              by_cases c8 : a0 ≥ (bt (rdOf ByteArray.empty l1 x9_1) 0)
              · rw [if_pos c8] at H
                have c8b0 : decide ((bt (rdOf ByteArray.empty l1 x9_1) 0) ≤ a0) = true := decide_eq_true c8
                clear c8
                obtain ⟨ji9, hji9⟩ : ∃ j_ : Int, (wrap64 (((rdOf ByteArray.empty l1 x9_1).size : Int) - 1)) = j_ := ⟨_, rfl⟩
                replace H : (if 0 ≤ (ji9) then (if (ji9) < ((rdOf ByteArray.empty l1 x9_1).size : Int) then (if a0 ≤ (bt (rdOf ByteArray.empty l1 x9_1) (ji9)) then (some true) else (lex_in.l0 k1 a0 l1 (l1.length : Int) (wrap64 (x9_1 + 1)))) else (none)) else (none)) = some r := by first | (rw [hji9] at H; exact H) | (simp only [hji9] at H ⊢; exact H)
                have hji9w : (IntKind.i64.wrap (((rdOf ByteArray.empty l1 x9_1).size : Int) - 1)) = ji9 := (i64_w _).trans hji9
                by_cases c10 : 0 ≤ (ji9)
                · rw [if_pos c10] at H
                  have c10b0 : decide (0 ≤ (ji9)) = true := decide_eq_true c10
                  clear c10
                  by_cases c11 : (ji9) < ((rdOf ByteArray.empty l1 x9_1).size : Int)
                  · rw [if_pos c11] at H
                    have c11b0 : decide ((ji9) < ((rdOf ByteArray.empty l1 x9_1).size : Int)) = true := decide_eq_true c11
                    clear c11
                    by_cases c13 : a0 ≤ (bt (rdOf ByteArray.empty l1 x9_1) (ji9))
                    · rw [if_pos c13] at H
                      have c13b0 : decide (a0 ≤ (bt (rdOf ByteArray.empty l1 x9_1) (ji9))) = true := decide_eq_true c13
                      clear c13
                      obtain rfl := Option.some.inj H
                      have p322 : 0 ≤ (x9_1 : Int) := of_decide_eq_true (by first | (with_reducible assumption) | assumption)
                      have q322 : x9_1 < (l1.length : Int) := of_decide_eq_true (by first | (with_reducible assumption) | assumption)
                      obtain ⟨ad322, e322, hx322_0⟩ := Kd.at_string HR1.out x9_1 p322 q322
                      cases e322
                      replace p322 := eq_true p322
                      replace q322 := eq_true q322
                      have p7 : 0 ≤ (0 : Int) := (by omega)
                      have q7 : 0 < (rdOf ByteArray.empty l1 x9_1).size := (by have : (0 : Int) < ((rdOf ByteArray.empty l1 x9_1).size : Int) := of_decide_eq_true (by first | (with_reducible assumption) | assumption); omega)
                      have hx7 : ∀ h : 0 < (rdOf ByteArray.empty l1 x9_1).size, (((rdOf ByteArray.empty l1 x9_1)[0]'h).toNat : Int) = bt (rdOf ByteArray.empty l1 x9_1) 0 := bt_at (rdOf ByteArray.empty l1 x9_1) 0
                      clear p7
                      have qi7 : (0 < ((rdOf ByteArray.empty l1 x9_1).size : Int)) = True := eq_true (of_decide_eq_true (by first | (with_reducible assumption) | assumption))
                      replace q7 := eq_true q7
                      have p12 : 0 ≤ ((ji9) : Int) := of_decide_eq_true (by first | (with_reducible assumption) | assumption)
                      have q12 : (ji9) < ((rdOf ByteArray.empty l1 x9_1).size : Int) := of_decide_eq_true (by first | (with_reducible assumption) | assumption)
                      have hx12 := bt_at (rdOf ByteArray.empty l1 x9_1) (ji9)
                      replace p12 := eq_true p12
                      replace q12 := eq_true q12
                      go_wp2
                      go_ret
                      exact ⟨by first | rfl | (simp; done) | (simp only [← hji9] <;> (first | rfl | simp)) | (simp [*]; done), by repeat (first | exact Drawn0.refl _ | apply Drawn0.step)⟩
                    · rw [if_neg c13] at H
                      have c13b0 : decide (a0 ≤ (bt (rdOf ByteArray.empty l1 x9_1) (ji9))) = false := decide_eq_false c13
                      clear c13
                      have H' := Aside0.mk H
                      clear H
                      have p322 : 0 ≤ (x9_1 : Int) := of_decide_eq_true (by first | (with_reducible assumption) | assumption)
                      have q322 : x9_1 < (l1.length : Int) := of_decide_eq_true (by first | (with_reducible assumption) | assumption)
                      obtain ⟨ad322, e322, hx322_0⟩ := Kd.at_string HR1.out x9_1 p322 q322
                      cases e322
                      replace p322 := eq_true p322
                      replace q322 := eq_true q322
                      have p7 : 0 ≤ (0 : Int) := (by omega)
                      have q7 : 0 < (rdOf ByteArray.empty l1 x9_1).size := (by have : (0 : Int) < ((rdOf ByteArray.empty l1 x9_1).size : Int) := of_decide_eq_true (by first | (with_reducible assumption) | assumption); omega)
                      have hx7 : ∀ h : 0 < (rdOf ByteArray.empty l1 x9_1).size, (((rdOf ByteArray.empty l1 x9_1)[0]'h).toNat : Int) = bt (rdOf ByteArray.empty l1 x9_1) 0 := bt_at (rdOf ByteArray.empty l1 x9_1) 0
                      clear p7
                      have qi7 : (0 < ((rdOf ByteArray.empty l1 x9_1).size : Int)) = True := eq_true (of_decide_eq_true (by first | (with_reducible assumption) | assumption))
                      replace q7 := eq_true q7
                      have p12 : 0 ≤ ((ji9) : Int) := of_decide_eq_true (by first | (with_reducible assumption) | assumption)
                      have q12 : (ji9) < ((rdOf ByteArray.empty l1 x9_1).size : Int) := of_decide_eq_true (by first | (with_reducible assumption) | assumption)
                      have hx12 := bt_at (rdOf ByteArray.empty l1 x9_1) (ji9)
                      replace p12 := eq_true p12
                      replace q12 := eq_true q12
                      go_wp2
                      go_roundg k1
                      case measure => have := HK1.out; omega
                      case rel => exact ⟨(wrap64 (x9_1 + 1)), (by first | rfl | (simp; done) | (simp [*]; done)), H', ⟨by have := HK1.out; omega⟩, by repeat (first | exact Drawn0.refl _ | apply Drawn0.step)⟩
                  · rw [if_neg c11] at H
                    exact absurd H (by simp)
                · rw [if_neg c10] at H
                  exact absurd H (by simp)
              · rw [if_neg c8] at H
                have c8b0 : decide ((bt (rdOf ByteArray.empty l1 x9_1) 0) ≤ a0) = false := decide_eq_false c8
                clear c8
                have H' := Aside0.mk H
                clear H
                have p322 : 0 ≤ (x9_1 : Int) := of_decide_eq_true (by first | (with_reducible assumption) | assumption)
                have q322 : x9_1 < (l1.length : Int) := of_decide_eq_true (by first | (with_reducible assumption) | assumption)
                obtain ⟨ad322, e322, hx322_0⟩ := Kd.at_string HR1.out x9_1 p322 q322
                cases e322
                replace p322 := eq_true p322
                replace q322 := eq_true q322
                have p7 : 0 ≤ (0 : Int) := (by omega)
                have q7 : 0 < (rdOf ByteArray.empty l1 x9_1).size := (by have : (0 : Int) < ((rdOf ByteArray.empty l1 x9_1).size : Int) := of_decide_eq_true (by first | (with_reducible assumption) | assumption); omega)
                have hx7 : ∀ h : 0 < (rdOf ByteArray.empty l1 x9_1).size, (((rdOf ByteArray.empty l1 x9_1)[0]'h).toNat : Int) = bt (rdOf ByteArray.empty l1 x9_1) 0 := bt_at (rdOf ByteArray.empty l1 x9_1) 0
                clear p7
                have qi7 : (0 < ((rdOf ByteArray.empty l1 x9_1).size : Int)) = True := eq_true (of_decide_eq_true (by first | (with_reducible assumption) | assumption))
                replace q7 := eq_true q7
                go_wp2
                go_roundg k1
                case measure => have := HK1.out; omega
                case rel => exact ⟨(wrap64 (x9_1 + 1)), (by first | rfl | (simp; done) | (simp [*]; done)), H', ⟨by have := HK1.out; omega⟩, by repeat (first | exact Drawn0.refl _ | apply Drawn0.step)⟩
            · rw [if_neg c6] at H
              exact absurd H (by simp)
          · rw [if_neg c5] at H
            exact absurd H (by simp)
        · rw [if_neg c4] at H
          exact absurd H (by simp)
      · rw [if_neg c3] at H
        have c3b0 : decide (x9_1 < (l1.length : Int)) = false := decide_eq_false c3
        clear c3
        obtain rfl := Option.some.inj H
        go_wp2
        go_ret
        exact ⟨by first | rfl | (simp; done) | (simp [*]; done), by repeat (first | exact Drawn0.refl _ | apply Drawn0.step)⟩

/-! ### lex_while: function 46 -/
def lex_while.l0 : Nat → ByteArray → List ByteArray → Int → Option (Int)
  | 0, _, _, _ => none
  | k + 1, x0, x1, x5 => if x5 < (x0.size : Int) then (if 0 ≤ x5 then ((lex_in.f k (bt x0 x5) x1).bind fun t323 => (if t323 = true then (lex_while.l0 k x0 x1 (wrap64 (x5 + 1))) else (some x5))) else (none)) else (some x5)
def lex_while.f (k : Nat) (a0 : ByteArray) (l1 : List ByteArray) : Option (Int) := lex_while.l0 k a0 l1 0
theorem lex_while.mono_l : ∀ k, (∀ y0 y1 y2, LeO (lex_while.l0 k y0 y1 y2) (lex_while.l0 (k + 1) y0 y1 y2))
  | 0 => fun _ _ _ r h => by simp [lex_while.l0] at h
  | k + 1 => by
    have ih0 := lex_while.mono_l k
    · intro y0 y1 y2
      unfold lex_while.l0
      repeat' first
      | (with_reducible exact ih0 _ _ _)
      | (with_reducible exact lex_in.mono _ _ _)
      | (with_reducible exact LeO.refl _)
      | (with_reducible exact LeO.none _)
      | (with_reducible refine LeO.ite ?_ ?_)
      | (with_reducible refine LeO.bind ?_ (fun _ => ?_))
      | exact ih0 _ _ _
      | exact lex_in.mono _ _ _
      | exact LeO.none _
      | refine LeO.ite ?_ ?_
      | refine LeO.bind ?_ (fun _ => ?_)
theorem lex_while.mono : ∀ a0 a1 k, LeO (lex_while.f k a0 a1) (lex_while.f (k + 1) a0 a1) := by
  intro a0 a1 k
  have ih0 := lex_while.mono_l k
  unfold lex_while.f
  repeat' first
      | (with_reducible exact ih0 _ _ _)
      | (with_reducible exact lex_in.mono _ _ _)
      | (with_reducible exact LeO.refl _)
      | (with_reducible exact LeO.none _)
      | (with_reducible refine LeO.ite ?_ ?_)
      | (with_reducible refine LeO.bind ?_ (fun _ => ?_))
      | exact ih0 _ _ _
      | exact lex_in.mono _ _ _
      | exact LeO.none _
      | refine LeO.ite ?_ ?_
      | refine LeO.bind ?_ (fun _ => ?_)
set_option maxHeartbeats 8000000 in
set_option maxRecDepth 100000 in
theorem lex_while.calls (k : Nat) (a0 : ByteArray) (A1 : Option Addr) (c1 : Nat) (l1 : List ByteArray) (r : Int) (w : World) (hr1 : Kd.C Kd.string w A1 l1.length l1) (hc1 : l1.length ≤ c1) (h : lex_while.f k a0 l1 = some r) :
    Calls Try.prog 46 #[.string a0, .slice A1 l1.length c1] w fun e w' => e = .returned (.int .i64 r) ∧ Drawn0 w w' := by
  have HR1 := Aside0.mk hr1
  have HC1 := Aside0.mk hc1
  clear hr1 hc1
  have H : (lex_while.l0 k a0 l1 0) = some r := h
  clear h
  have H' := Aside0.mk H
  clear H
  go_enter Try.func46, Try.ntmps46
  go_wp2
  go_loopg [5] k (fun kq v5 w' => ∃ (x5_1 : Int), v5 = .int .i64 x5_1 ∧ Aside0 (lex_while.l0 kq a0 l1 x5_1 = some r) ∧ Aside0 (kq ≤ k) ∧ Drawn0 w w')
  case atStart => exact ⟨(0), (by first | rfl | (simp; done) | (simp [*]; done)), H', ⟨Nat.le_refl _⟩, by repeat (first | exact Drawn0.refl _ | apply Drawn0.step)⟩
  case round =>
    clear H'
    try clear c1
    try clear p2
    obtain ⟨x5_1, rfl, HA, HK1, ⟨m1, rfl⟩⟩ := hrel
    cases gk with
    | zero => exact absurd HA.out (by simp [lex_while.l0])
    | succ k1 =>
      have H := HA.out
      clear HA
      simp only [lex_while.l0] at H
      by_cases c3 : x5_1 < (a0.size : Int)
      · rw [if_pos c3] at H
        have c3b0 : decide (x5_1 < (a0.size : Int)) = true := decide_eq_true c3
        clear c3
        by_cases c4 : 0 ≤ x5_1
        · rw [if_pos c4] at H
          have c4b0 : decide (0 ≤ x5_1) = true := decide_eq_true c4
          clear c4
          replace H := Option.bind_eq_some_iff.mp H
          obtain ⟨t323, A60, H⟩ := H
          replace H : (if t323 = true then (lex_while.l0 k1 a0 l1 (wrap64 (x5_1 + 1))) else (some x5_1)) = some r := H
          have A6 := Aside0.mk A60
          clear A60
          by_cases c7 : t323 = true
          · subst c7
            have H1 : (lex_while.l0 k1 a0 l1 (wrap64 (x5_1 + 1))) = some r := by rw [if_pos rfl] at H; exact H
            clear H
            have H := H1
            clear H1
            have H' := Aside0.mk H
            clear H
            have p5 : 0 ≤ (x5_1 : Int) := of_decide_eq_true (by first | (with_reducible assumption) | assumption)
            have q5 : x5_1 < (a0.size : Int) := of_decide_eq_true (by first | (with_reducible assumption) | assumption)
            have hx5 := bt_at a0 x5_1
            replace p5 := eq_true p5
            replace q5 := eq_true q5
            go_wp2_with (first | (go_at_call 45; (with_reducible refine (lex_in.calls k1 (bt a0 x5_1) _ _ l1 true _ ?side1 ?side2 A6.out).mono ?_); (case side1 => repeat (first | exact HR1.out | (with_reducible refine Kd.C_alloc ?_ _) | (with_reducible refine Kd.C_drewN ?_ _) | (with_reducible refine Kd.C_drew ?_))); (case side2 => exact HC1.out); rintro e w' ⟨rfl, ⟨nd, rfl⟩⟩))
            go_roundg k1
            case measure => have := HK1.out; omega
            case rel => exact ⟨(wrap64 (x5_1 + 1)), (by first | rfl | (simp; done) | (simp [*]; done)), H', ⟨by have := HK1.out; omega⟩, by repeat (first | exact Drawn0.refl _ | apply Drawn0.step)⟩
          · replace c7 := Bool.eq_false_iff.mpr c7
            subst c7
            have H1 : (some x5_1) = some r := by rw [if_neg (show ¬ (false = true) by decide)] at H; exact H
            clear H
            have H := H1
            clear H1
            obtain rfl := Option.some.inj H
            have p5 : 0 ≤ (x5_1 : Int) := of_decide_eq_true (by first | (with_reducible assumption) | assumption)
            have q5 : x5_1 < (a0.size : Int) := of_decide_eq_true (by first | (with_reducible assumption) | assumption)
            have hx5 := bt_at a0 x5_1
            replace p5 := eq_true p5
            replace q5 := eq_true q5
            go_wp2_with (first | (go_at_call 45; (with_reducible refine (lex_in.calls k1 (bt a0 x5_1) _ _ l1 false _ ?side1 ?side2 A6.out).mono ?_); (case side1 => repeat (first | exact HR1.out | (with_reducible refine Kd.C_alloc ?_ _) | (with_reducible refine Kd.C_drewN ?_ _) | (with_reducible refine Kd.C_drew ?_))); (case side2 => exact HC1.out); rintro e w' ⟨rfl, ⟨nd, rfl⟩⟩))
            go_ret
            exact ⟨by first | rfl | (simp; done) | (simp [*]; done), by repeat (first | exact Drawn0.refl _ | apply Drawn0.step)⟩
        · rw [if_neg c4] at H
          exact absurd H (by simp)
      · rw [if_neg c3] at H
        have c3b0 : decide (x5_1 < (a0.size : Int)) = false := decide_eq_false c3
        clear c3
        obtain rfl := Option.some.inj H
        go_wp2
        go_ret
        exact ⟨by first | rfl | (simp; done) | (simp [*]; done), by repeat (first | exact Drawn0.refl _ | apply Drawn0.step)⟩

end Go.Proofs.Ytifcnblgpnfehaa.X
