-- Laid by xprint.py, a program of this session's, out of the translation.
import Derived.Test.YtielpefbgdilaaaX0
import Derived.Test.YtielpefbgdilaaaX1
import Derived.Test.YtielpefbgdilaaaX3
import Derived.Test.YtielpefbgdilaaaX4
namespace Go.Proofs.Ytielpefbgdilaaa.X
open Go.RowKit Go.Proofs.YtielpefbgdilaaaW.PrintWords Go.Proofs.YtielpefbgdilaaaW.PrintLast Go.Proofs.YtielpefbgdilaaaW.PrintMore
attribute [local go_sem] max2_int min2_int max_two min_two max_three min_three max_four min_four x_isSome x_str_gtr x_str_leq x_str_geq   -- for this text's walks alone
set_option linter.unusedVariables false
set_option linter.unusedSimpArgs false

/-! ### logfmt_scanner_field: function 25 -/
section
variable {P : Program} {md : Region.Mode} {ops : Array Oper} {Q : Exit → Act → World → Prop} {S : World → Prop} {ds : List Nat} {T : Bool × List (List Nat × List Nat)}
theorem scn_pY (i : Nat) (N : Tmp) (l' : Array Bool) (hT : rtab md ops = T) {oi : Oper} {v : Value} {fuel : Nat} {l : Array Bool} {a a' : Act} {w : World} (h : wpAnyLast P md ops Q S ds fuel l' a' w)
  (hi : ops[i]? = some oi := by rfl) (hN : oi.dst = some N := by rfl) (hc : anyT T l.toList l'.toList i = true := by kernel_rfl) (hQ : ∀ c a w, Q (.panic c) (a.put oi.dst v) w → Q (.panic c) a w := by exact fun _ _ _ h => h)
  (hw : Region.wanted oi (yielded ops a.tmps) = true := by rfl) (hv : ∀ w, (execOp a.eval oi).run P w = .ok (.value v) w := by intro w'; go_simp; with_reducible rfl)
  (ha : a.put (some N) v = a' := by simp only [Act.put, List.setIfInBounds_toArray, List.set_cons_zero, List.set_cons_succ, i64_w, i32_w]; rfl) : wpAnyLast P md ops Q S ds (fuel + 1) l a w :=
 pure_ l' hi hN (any_of hT hc) hQ (Or.inl ⟨hw, hv⟩) ha h
end
theorem by_extract0 (s : ByteArray) : s.extract 0 (0 : Int).toNat = (⟨#[]⟩ : ByteArray) := by
 have h : (s.extract 0 (0 : Int).toNat).size = 0 := by simp
 exact ByteArray.ext (by apply Array.eq_empty_of_size_eq_zero; exact h)
/-- the scanner at block g: what is left, its labels (a row of the call's own, where ok allows it) -/
def ScnS (W : World) (g base : Nat) (ok : Nat → Prop) (s : ByteArray) (l : List S39) : Prop :=
 ∃ v, W.heap[g]? = some (.cells #[.string s, v] 59 (0, 0)) ∧ Kd.R k39 39 W base ok v l ∧ base ≤ g ∧ (∀ k, ok k → k ≠ g)
section
variable {W W1 : World} {g base : Nat} {ok : Nat → Prop} {s : ByteArray} {l : List S39}
theorem ScnS.drewN (h : ScnS W g base ok s l) (n : Nat) : ScnS (W.drewN n) g base ok s l := by
 obtain ⟨v, h1, h2, h3⟩ := h
 exact ⟨v, h1, Kd.R_drewN h2 n, h3⟩
theorem ScnS.below (h : ScnS W g base ok s l) (hb : Below W.heap.size W W1) : ScnS W1 g base ok s l := by
 obtain ⟨v, h1, h2, h3⟩ := h
 exact ⟨v, (hb.block _ (Array.getElem?_eq_some_iff.1 h1).1).trans h1, Kd.R_below h2 hb, h3⟩
theorem ScnS.set (h : ScnS W g base ok s l) (t : ByteArray) : ScnS (W.setCell ⟨g, 0, none⟩ (.string t)) g base ok t l := by
 obtain ⟨v, h1, h2, h3, h4⟩ := h
 exact ⟨v, blk_put h1 0 (.string t) rfl, Kd.R_far (p := ⟨g, 0, none⟩) h2 h4 _, h3, h4⟩
theorem ScnS.far (h : ScnS W g base ok s l) {gp : Nat} (hg : gp ≠ g) (hok : ∀ k, ok k → k ≠ gp) (i : Nat) (u : Value) : ScnS (W.setCell ⟨gp, i, none⟩ u) g base ok s l := by
 obtain ⟨v, h1, h2, h3⟩ := h
 exact ⟨v, blk_far h1 (p := ⟨gp, i, none⟩) (fun e => hg e.symm) u, Kd.R_far (p := ⟨gp, i, none⟩) h2 hok u, h3⟩
theorem ScnS.cell (h : ScnS W g base ok s l) : W.cell? ⟨g, 0, none⟩ = some (.string s) := by
 obtain ⟨v, hb, _⟩ := h
 exact (blk_cell hb 0).trans rfl
theorem ScnS.bound (h : ScnS W g base ok s l) : ScnS W g base (fun k => ok k ∧ k < W.heap.size) s l := by
 obtain ⟨v, h1, h2, h3, h4⟩ := h
 exact ⟨v, h1, Kd.R_mono (Kd.R_bound h2) (fun k hk => ⟨hk.1, hk.2.2.1⟩), h3, fun k hk => h4 k hk.1⟩
theorem ScnS.weak (h : ScnS W g base ok s l) : ScnS W g base (fun k => k ≠ g) s l := by
 obtain ⟨v, h1, h2, h3, h4⟩ := h
 exact ⟨v, h1, Kd.R_mono h2 h4, h3, fun _ h => h⟩
end
set_option maxHeartbeats 4000000 in
theorem scn_take_calls (W : World) (g base : Nat) (ok : Nat → Prop) (s : ByteArray) (n : Int) (l : List S39) (hS : ScnS W g base ok s l) (hn : 0 ≤ n) (h1 : n ≤ (s.size : Int)) :
  Calls Try.prog 39 #[.pointer (some ⟨g, 0, none⟩), .int .i64 n] W fun e w' => e = .returned (.string (s.extract 0 n.toNat)) ∧ ScnS w' g base ok (s.extract n.toNat s.size) l ∧ Below base W w' ∧ KeepBut W w' g none := by
 have HS := Aside0.mk hS
 obtain ⟨v, hb, hR, hg, hk⟩ := hS
 have HG := Aside0.mk hg
 have hc0 : W.cell? ⟨g, 0, none⟩ = some (.string s) := (blk_cell hb 0).trans rfl
 have hf1 : W.frozen? ⟨g, 0, none⟩ = false := blk_frozen hb 0
 clear hb hR hg hk
 go_enter Try.func39, Try.ntmps39
 go_wp2
 go_ret
 refine ⟨rfl, ?_, ?_, ?_⟩
 ·exact HS.out.set _
 ·exact (Below.refl base W).setCell (p := ⟨g, 0, none⟩) HG.out _
 ·exact ⟨by simp [World.setCell], fun i _ hne _ => Below.heap_setCell W ⟨g, 0, none⟩ _ i hne⟩
set_option maxHeartbeats 4000000 in
theorem scn_until_calls (W : World) (g base : Nat) (ok : Nat → Prop) (s cs : ByteArray) (l : List S39) (i : Int) (hS : ScnS W g base ok s l) (hBase : base ≤ W.heap.size) (hi : i ≤ (s.size : Int))
  (hIA : ∀ w, Calls Try.prog 48 #[.string s, .string cs] w fun e w' => e = .returned (.int .i64 i) ∧ Below w.heap.size w w') :
  Calls Try.prog 38 #[.pointer (some ⟨g, 0, none⟩), .string cs] W fun e w' => e = .returned (.string (s.extract 0 (if i < 0 then (s.size : Int) else i).toNat)) ∧ ScnS w' g base ok (s.extract (if i < 0 then (s.size : Int) else i).toNat s.size) l ∧ Below base W w' ∧ KeepBut W w' g none := by
 have HS := Aside0.mk hS
 have HBS := Aside0.mk hBase
 have HI := Aside0.mk hIA
 have hc0 := hS.cell
 clear hS hBase hIA
 by_cases h0 : i < 0
 ·rw [if_pos h0]
  have ex : s.extract 0 (s.size : Int).toNat = s := by rw [Int.toNat_natCast]; exact ByteArray.extract_zero_size
  have h0b : decide (i < 0) = true := decide_eq_true h0
  clear h0 hi
  go_enter Try.func38, Try.ntmps38
  go_wp2_with (first
   | (go_at_call 48; (with_reducible refine (HI.out _).mono ?_); rintro e w1 ⟨rfl, hb⟩; have n1_ := Aside0.mk (HS.out.below hb); have n2_ := Aside0.mk (hb.mono HBS.out); have n3_ := Aside0.mk (KeepBut.of_below hb g none); clear HS hb hc0; have HS := n1_; have HB := n2_; have HK := n3_; clear n1_ n2_ n3_; have hc0 := HS.out.cell)
   | (go_at_call 39; (with_reducible refine (scn_take_calls _ g base ok s (s.size : Int) l HS.out (by omega) (Int.le_refl _)).mono ?_); rintro e w2 ⟨rfl, hS2, hB2, hK2⟩; have n1_ := Aside0.mk hS2; have n2_ := Aside0.mk (HB.out.trans hB2); have n3_ := Aside0.mk (HK.out.trans hK2 (.inl rfl)); clear HS HB HK hS2 hB2 hK2 hc0; have HS := n1_; have HB := n2_; have HK := n3_; clear n1_ n2_ n3_))
  go_ret
  exact ⟨by rw [ex]; rfl, HS.out, HB.out, HK.out⟩
 ·rw [if_neg h0]
  have h0b : decide (i < 0) = false := decide_eq_false h0
  have hi0 : 0 ≤ i := by omega
  clear h0
  go_enter Try.func38, Try.ntmps38
  go_wp2_with (first
   | (go_at_call 48; (with_reducible refine (HI.out _).mono ?_); rintro e w1 ⟨rfl, hb⟩; have n1_ := Aside0.mk (HS.out.below hb); have n2_ := Aside0.mk (hb.mono HBS.out); have n3_ := Aside0.mk (KeepBut.of_below hb g none); clear HS hb hc0; have HS := n1_; have HB := n2_; have HK := n3_; clear n1_ n2_ n3_; have hc0 := HS.out.cell)
   | (go_at_call 39; (with_reducible refine (scn_take_calls _ g base ok s i l HS.out hi0 hi).mono ?_); rintro e w2 ⟨rfl, hS2, hB2, hK2⟩; have n1_ := Aside0.mk hS2; have n2_ := Aside0.mk (HB.out.trans hB2); have n3_ := Aside0.mk (HK.out.trans hK2 (.inl rfl)); clear HS HB HK hS2 hB2 hK2 hc0; have HS := n1_; have HB := n2_; have HK := n3_; clear n1_ n2_ n3_))
  go_ret
  exact ⟨rfl, HS.out, HB.out, HK.out⟩
set_option maxHeartbeats 4000000 in
set_option maxRecDepth 100000 in
theorem scn_field_none (W : World) (g base : Nat) (s : ByteArray) (l : List S39) (hS : ScnS W g base (fun k => k ≠ g) s l) (hBase : base ≤ W.heap.size) (hs : 0 < s.size)
  (hIA : ∀ w, Calls Try.prog 48 #[.string s, .string ⟨#[32, 9, 10, 61, 34]⟩] w fun e w' => e = .returned (.int .i64 0) ∧ Below w.heap.size w w') :
  Calls Try.prog 25 #[.pointer (some ⟨g, 0, none⟩)] W fun e w' => e = .returned (.tuple #[]) ∧ ScnS w' g base (fun k => k ≠ g) (s.extract 1 s.size) l ∧ Below base W w' := by
 have HS := Aside0.mk hS
 have HBS := Aside0.mk hBase
 have HI := Aside0.mk hIA
 clear hS hBase hIA
 have e0 : s.extract 0 (if (0 : Int) < 0 then (s.size : Int) else 0).toNat = (⟨#[]⟩ : ByteArray) := by
  rw [if_neg (by decide)]
  exact by_extract0 s
 have e1 : s.extract (if (0 : Int) < 0 then (s.size : Int) else 0).toNat s.size = s := by
  rw [if_neg (by decide)]
  exact ByteArray.extract_zero_size
 go_enter Try.func25, Try.ntmps25
 go_wp2_with (first
  | (go_at_call 38; (with_reducible refine (scn_until_calls _ g base _ s ⟨#[32, 9, 10, 61, 34]⟩ l 0 HS.out HBS.out (by omega) HI.out).mono ?_); rintro e w1 ⟨rfl, hS2, hB2, hK2⟩; rw [e1] at hS2; rw [e0]; have n1_ := Aside0.mk hS2; have n2_ := Aside0.mk hB2; have n3_ := Aside0.mk hK2; have n4_ := Aside0.mk (Nat.le_trans HBS.out hK2.1); clear HS HBS hS2 hB2 hK2; have HS := n1_; have HB := n2_; have HK := n3_; have HBS := n4_; clear n1_ n2_ n3_ n4_)
  | (go_at_call 39; (with_reducible refine (scn_take_calls _ g base _ s 1 l (HS.out.below (below_alloc (Below.refl _ _) _)) (by omega) (by omega)).mono ?_); rintro e w2 ⟨rfl, hS2, hB2, hK2⟩; have n1_ := Aside0.mk hS2; have n2_ := Aside0.mk ((HB.out.alloc HBS.out _).trans hB2); clear HS HB hS2 hB2 hK2; have HS := n1_; have HB := n2_; clear n1_ n2_))
 (try simp only [Exit.inBlock, Exit.then]); refine bodyPost_ret (results_none rfl _ _ _) rfl ?_
 exact ⟨rfl, HS.out, HB.out⟩
theorem scn_until_m (W : World) (g base : Nat) (ok : Nat → Prop) (s cs : ByteArray) (l : List S39) (i m : Int) (hS : ScnS W g base ok s l) (hBase : base ≤ W.heap.size) (hi : i ≤ (s.size : Int)) (hm : (if i < 0 then (s.size : Int) else i) = m)
  (hIA : ∀ w, Calls Try.prog 48 #[.string s, .string cs] w fun e w' => e = .returned (.int .i64 i) ∧ Below w.heap.size w w') :
  Calls Try.prog 38 #[.pointer (some ⟨g, 0, none⟩), .string cs] W fun e w' => e = .returned (.string (s.extract 0 m.toNat)) ∧ ScnS w' g base ok (s.extract m.toNat s.size) l ∧ Below base W w' ∧ KeepBut W w' g none :=
 hm ▸ scn_until_calls W g base ok s cs l i hS hBase hi hIA
def scn_field.T11 : Bool × List (List Nat × List Nat) := (true, [([], []), ([], []), ([1], [1]), ([2], [2]), ([3], [3]), ([], []), ([5], [5]), ([4, 6], [4, 6]), ([0, 0, 1, 2, 3, 4, 5, 6, 7], [0]), ([8, 0, 1, 2, 3, 4, 5, 6, 7], [8]), ([9, 7, 7, 0, 1, 2, 3, 4, 5, 6, 7], [7, 9])])
def scn_field.B11 : List Nat := [0, 0, 2, 6, 14, 0, 32, 126, 255, 511, 1023]
theorem scn_field.tab11 : rtab .any (opsOf Try.f25 11) = scn_field.T11 := by kernel_rfl
theorem scn_field.bits11 : waitsOk scn_field.T11.2 scn_field.B11 = true := by kernel_rfl
set_option maxHeartbeats 8000000 in
set_option maxRecDepth 100000 in
theorem scn_field_named (k : Nat) (W : World) (g base : Nat) (s : ByteArray) (l : List S39) (i : Int) (name rest v r : ByteArray) (b c : Bool) (hS : ScnS W g base (fun k => k ≠ g) s l) (hBase : base ≤ W.heap.size) (hi : i ≤ (s.size : Int))
  (hIA : ∀ w, Calls Try.prog 48 #[.string s, .string ⟨#[32, 9, 10, 61, 34]⟩] w fun e w' => e = .returned (.int .i64 i) ∧ Below w.heap.size w w')
  (hn : s.extract 0 (if i < 0 then (s.size : Int) else i).toNat = name) (hr : s.extract (if i < 0 then (s.size : Int) else i).toNat s.size = rest) (hne : (name.toList == ([] : List UInt8)) = false)
  (hHP : strings_HasPrefix.f rest ⟨#[61]⟩ = some b)
  (hV : (b = false ∧ v = ⟨#[]⟩ ∧ r = rest) ∨ (b = true ∧ 1 ≤ rest.size ∧ ∃ q q1 n ok, rest.extract 1 rest.size = q ∧ quote_Get.f k q = some (q1, n, ok) ∧ ((ok = true ∧ 0 ≤ n ∧ n ≤ (q.size : Int) ∧ v = q1 ∧ r = q.extract n.toNat q.size)
   ∨ (ok = false ∧ ∃ j m : Int, (if j < 0 then (q.size : Int) else j) = m ∧ j ≤ (q.size : Int) ∧ (∀ w, Calls Try.prog 48 #[.string q, .string ⟨#[32, 9, 10]⟩] w fun e w' => e = .returned (.int .i64 j) ∧ Below w.heap.size w w') ∧ v = q.extract 0 m.toNat ∧ r = q.extract m.toNat q.size))))
  (hN : label_Name.f k name = some c) (hl : l.length < 4398046511104) (l' : List S39) (hl' : (if c = true ∧ (v.size : Int) ≤ 256 then l ++ [⟨name, v⟩] else l) = l') :
  Calls Try.prog 25 #[.pointer (some ⟨g, 0, none⟩)] W fun e w' => e = .returned (.tuple #[]) ∧ ScnS w' g base (fun k => k ≠ g) r l' ∧ Below base W w' := by
 have HS := Aside0.mk hS
 have HBS := Aside0.mk hBase
 have HI := Aside0.mk hIA
 have HP := Aside0.mk hHP
 have HV := Aside0.mk hV
 have HN := Aside0.mk hN
 have HL := Aside0.mk hl
 have HB := Aside0.mk (Below.refl base W)
 have E1 := Aside0.mk hn
 have E2 := Aside0.mk hr
 clear hS hBase hIA hHP hV hN hl hn hr
 go_enter Try.func25, Try.ntmps25
 go_upto_region 3 with (first
  | (go_at_call 38; (with_reducible refine (scn_until_calls _ g base _ s ⟨#[32, 9, 10, 61, 34]⟩ l i HS.out HBS.out hi HI.out).mono ?_); rintro e w1 ⟨rfl, hS2, hB2, hK2⟩; rw [E2.out] at hS2; rw [E1.out]; have n1_ := Aside0.mk hS2; have n2_ := Aside0.mk hB2; have n4_ := Aside0.mk (Nat.le_trans HBS.out hK2.1); clear HS HBS HB hS2 hB2 hK2; have HS := n1_; have HB := n2_; have HBS := n4_; clear n1_ n2_ n4_))
 have hgp : w1.heap.size ≠ g := by obtain ⟨_, h, _⟩ := HS.out; have := blk_lt h; omega
 have HX := Aside0.mk (blk_new w1 (.cells #[.string name, .string ⟨#[]⟩] 39 (0, 0)))
 have HGP := Aside0.mk (show base ≤ w1.heap.size from HBS.out)
 have n1_ := Aside0.mk (HS.out.bound.below (below_alloc (Below.refl _ _) (.cells #[.string name, .string ⟨#[]⟩] 39 (0, 0))))
 have n2_ := Aside0.mk (HB.out.alloc HBS.out (.cells #[.string name, .string ⟨#[]⟩] 39 (0, 0)))
 have n3_ := Aside0.mk (show base ≤ (w1.alloc (.cells #[.string name, .string ⟨#[]⟩] 39 (0, 0))).heap.size from Nat.le_trans HBS.out (below_alloc (Below.refl _ _) _).size)
 clear HS HB HBS
 have HS := n1_
 have HB := n2_
 have HBS := n3_
 clear n1_ n2_ n3_
 generalize w1.alloc (.cells #[.string name, .string ⟨#[]⟩] 39 (0, 0)) = w2 at HS HB HBS HX ⊢
 generalize w1.heap.size = gp at hgp HX HGP HS ⊢
 have hc0 := HS.out.cell
 go_upto_if 23 with (first
  | (go_at_call 40; (with_reducible refine (strings_HasPrefix.calls _ _ _ _ HP.out).mono ?_); rintro e w3 ⟨rfl, ⟨nd, rfl⟩⟩; have n1_ := Aside0.mk (HS.out.drewN nd); have n2_ := Aside0.mk (pw_below_drewN HB.out nd); clear HS HB; have HS := n1_; have HB := n2_; clear n1_ n2_; replace hc0 := HS.out.cell))
 go_cut [] (fun wc => Aside0 (ScnS wc g base (fun k => k ≠ g ∧ k < gp) r l) ∧ Aside0 (wc.heap[gp]? = some (.cells #[.string name, .string v] 39 (0, 0))) ∧ Aside0 (Below base W wc) ∧ Aside0 (base ≤ wc.heap.size))
 case first =>
  have HBS' := HBS
  clear HBS
  have HBS : Aside0 (base ≤ (w2.drewN nd).heap.size) := ⟨HBS'.out⟩
  have HX' : Aside0 ((w2.drewN nd).heap[gp]? = some (.cells #[.string name, .string ⟨#[]⟩] 39 (0, 0))) := ⟨HX.out⟩
  clear HX HBS'
  have HX := HX'
  clear HX'
  generalize w2.drewN nd = w3 at HS HB HBS HX hc0 ⊢
  rcases HV.out with ⟨rfl, rfl, rfl⟩ | ⟨rfl, h1, q, q1, n, ok, hq, hg, hk⟩
  ·clear HV
   go_wp2
   go_meet
   exact ⟨HS, HX, HB, HBS⟩
  ·clear HV
   have HG := Aside0.mk hg
   have HQ := Aside0.mk hq
   clear hg hq
   go_upto_if 38 with (first
    | (go_at_call 39; (with_reducible refine (scn_take_calls _ g base _ rest 1 l HS.out (by omega) (by omega)).mono ?_); rintro e w4 ⟨rfl, hS2, hB2, hK2⟩; rw [show (1 : Int).toNat = 1 from rfl, HQ.out] at hS2; have n1_ := Aside0.mk hS2; have n2_ := Aside0.mk (HB.out.trans hB2); have n3_ := Aside0.mk (Nat.le_trans HBS.out hK2.1); have n4_ := Aside0.mk (hK2.blk HX.out hgp (by simp)); clear HS HB HBS HX hS2 hB2 hK2 hc0; have HS := n1_; have HB := n2_; have HBS := n3_; have HX := n4_; clear n1_ n2_ n3_ n4_; have hc0 := HS.out.cell)
    | (go_at_call 41; (with_reducible refine (quote_Get.calls k _ _ _ _ _ HG.out).mono ?_); rintro e w5 ⟨rfl, hb⟩; have n1_ := Aside0.mk (HS.out.below hb); have n2_ := Aside0.mk (HB.out.trans (hb.mono HBS.out)); have n3_ := Aside0.mk (Nat.le_trans HBS.out hb.size); have n4_ := Aside0.mk (blk_below HX.out hb); clear HS HB HBS HX hb hc0; have HS := n1_; have HB := n2_; have HBS := n3_; have HX := n4_; clear n1_ n2_ n3_ n4_; have hc0 := HS.out.cell))
   rcases hk with ⟨rfl, hn0, hn1, rfl, rfl⟩ | ⟨rfl, j, m, hm, hj, hIA2, rfl, rfl⟩
   ·have hp1 : _ = some (Value.string ⟨#[]⟩) := (blk_cell HX.out 1).trans rfl
    have hp2 := blk_frozen HX.out 1
    go_upto_region 8 with (fail)
    have n1_ := Aside0.mk (HS.out.far hgp (fun k hk => Nat.ne_of_lt hk.2) 1 (.string v))
    have n2_ := Aside0.mk (HB.out.setCell (p := ⟨gp, 1, none⟩) HGP.out (.string v))
    have n3_ : Aside0 (base ≤ (w5.setCell ⟨gp, 1, none⟩ (.string v)).heap.size) := ⟨by simpa [World.setCell] using HBS.out⟩
    have n4_ := Aside0.mk (blk_put HX.out 1 (.string v) rfl)
    clear HS HB HBS HX hc0 hp1 hp2
    have HS := n1_
    have HB := n2_
    have HBS := n3_
    have HX := n4_
    clear n1_ n2_ n3_ n4_
    generalize w5.setCell ⟨gp, 1, none⟩ (.string v) = w6 at HS HB HBS HX ⊢
    go_wp2_with (go_at_call 39; (with_reducible refine (scn_take_calls _ g base _ q n l HS.out hn0 hn1).mono ?_); rintro e w7 ⟨rfl, hS2, hB2, hK2⟩; have n1_ := Aside0.mk hS2; have n2_ := Aside0.mk (HB.out.trans hB2); have n3_ := Aside0.mk (Nat.le_trans HBS.out hK2.1); have n4_ := Aside0.mk (hK2.blk HX.out hgp (by simp)); clear HS HB HBS HX hS2 hB2 hK2; have HS := n1_; have HB := n2_; have HBS := n3_; have HX := n4_; clear n1_ n2_ n3_ n4_)
    go_meet
    exact ⟨HS, HX, HB, HBS⟩
   ·have HJ := Aside0.mk hIA2
    clear hIA2
    go_wp2_with (go_at_call 38; (with_reducible refine (scn_until_m _ g base _ q ⟨#[32, 9, 10]⟩ l j m HS.out HBS.out hj hm HJ.out).mono ?_); rintro e w7 ⟨rfl, hS2, hB2, hK2⟩; have n1_ := Aside0.mk hS2; have n2_ := Aside0.mk (HB.out.trans hB2); have n3_ := Aside0.mk (Nat.le_trans HBS.out hK2.1); have n4_ := Aside0.mk (hK2.blk HX.out hgp (by simp)); clear HS HB HBS HX hS2 hB2 hK2; have HS := n1_; have HB := n2_; have HBS := n3_; have HX := n4_; clear n1_ n2_ n3_ n4_; have hp1 : _ = some (Value.string ⟨#[]⟩) := (blk_cell HX.out 1).trans rfl; have hp2 := blk_frozen HX.out 1)
    go_meet
    exact ⟨⟨HS.out.far hgp (fun k hk => Nat.ne_of_lt hk.2) 1 _⟩, ⟨blk_put HX.out 1 _ rfl⟩, ⟨HB.out.setCell (p := ⟨gp, 1, none⟩) HGP.out _⟩, ⟨by simpa [World.setCell] using HBS.out⟩⟩
 case rest =>
  clear HV HS HB HBS HX hc0
  obtain ⟨HS, HX, HB, HBS⟩ := hcut
  have hp0 : _ = some (Value.string name) := (blk_cell HX.out 0).trans rfl
  have hp1 : _ = some (Value.string v) := (blk_cell HX.out 1).trans rfl
  by_cases hc : c = true ∧ (v.size : Int) ≤ 256
  ·rw [if_pos hc] at hl'
   subst hl'
   obtain ⟨rfl, hv⟩ := hc
   have hv1 : decide ((v.size : Int) ≤ 256) = true := decide_eq_true hv
   have hv2 : decide (v.size ≤ 256) = true := decide_eq_true (by omega)
   clear hv
   go_upto_region 11 with (first | (go_at_call 21; (with_reducible refine (label_Name.calls k _ _ _ HN.out).mono ?_); rintro e w8 ⟨rfl, hb⟩; have n1_ := Aside0.mk (HS.out.below hb); have n2_ := Aside0.mk (HB.out.trans (hb.mono HBS.out)); have n3_ := Aside0.mk (Nat.le_trans HBS.out hb.size); have n4_ := Aside0.mk (blk_below HX.out hb); clear HS HB HBS HX hb hp0 hp1; have HS := n1_; have HB := n2_; have HBS := n3_; have HX := n4_; clear n1_ n2_ n3_ n4_; have hp0 : _ = some (Value.string name) := (blk_cell HX.out 0).trans rfl; have hp1 : _ = some (Value.string v) := (blk_cell HX.out 1).trans rfl))
   have HSb := Aside0.mk HS.out
   obtain ⟨vS, hbS, hRS, hgS, hkS⟩ := HS.out
   have HR0 := Aside0.mk (Kd.R_drew hRS)
   have HR := Aside0.mk (Kd.R_drew (Kd.R_mono hRS hkS))
   have HGS := Aside0.mk hgS
   have HBk := Aside0.mk hbS
   clear hbS hRS hgS hkS HS HSb hp0 hp1
   replace HB := Aside0.mk (below_drew HB.out)
   replace HBS : Aside0 (base ≤ w8.drew.heap.size) := HBS
   replace HBk : Aside0 (w8.drew.heap[g]? = _) := HBk
   replace HX : Aside0 (w8.drew.heap[gp]? = _) := HX
   refine start_ (n := 11) (S := fun w' => w'.heap[g]? = some (.cells #[.string r, vS] 59 (0, 0)) ∧ w'.heap[gp]? = some (.cells #[.string name, .string v] 39 (0, 0))) (ds := [10]) #[N_,N_,N_,N_,N_,N_,N_,N_,N_,N_,N_] (by kernel_rfl) rfl rfl ⟨HBk.out, HX.out⟩ (fun hHeld => ?_)
   refine with_tabW scn_field.tab11 scn_field.bits11 (fun HT_ HW_ => ?_)
   generalize w8.drew = W1 at HR0 HR HB HBS HBk HX hHeld ⊢
   refine scn_pY 0 60 #[J_,N_,N_,N_,N_,N_,N_,N_,N_,N_,N_] HT_.out ?_
   refine scn_pY 1 61 #[J_,J_,N_,N_,N_,N_,N_,N_,N_,N_,N_] HT_.out ?_
   refine scn_pY 2 62 #[J_,J_,J_,N_,N_,N_,N_,N_,N_,N_,N_] HT_.out ?_
   refine scn_pY 3 63 #[J_,J_,J_,J_,N_,N_,N_,N_,N_,N_,N_] HT_.out ?_
   refine take_ (i := 4) (N := some 64) (v := ?_) (a' := ?_) #[J_,J_,J_,J_,J_,N_,N_,N_,N_,N_,N_] rfl rfl (take_ofW HT_.out HW_.out (by kernel_rfl)) (fun _ _ _ h => h) (Or.inl ⟨by rfl, ?_⟩) hHeld ?_ ?_
   rotate_left
   ·intro w' hS_
    have hc1_ : w'.cell? ⟨g, 1, none⟩ = some vS := (blk_cell hS_.1 1).trans rfl
    go_simp
    with_reducible rfl
   rotate_left
   ·simp only [Act.put, List.setIfInBounds_toArray, List.set_cons_zero, List.set_cons_succ, i64_w, i32_w]
    rfl
   refine take_ (i := 5) (N := some 65) (v := ?_) (a' := ?_) #[J_,J_,J_,J_,J_,J_,N_,N_,N_,N_,N_] rfl rfl (take_ofW HT_.out HW_.out (by kernel_rfl)) (fun _ _ _ h => h) (Or.inl ⟨by rfl, ?_⟩) hHeld ?_ ?_
   rotate_left
   ·intro w' hS_
    have hc1_ : w'.cell? ⟨gp, 0, none⟩ = some (.string name) := (blk_cell hS_.2 0).trans rfl
    have hc2_ : w'.cell? ⟨gp, 1, none⟩ = some (.string v) := (blk_cell hS_.2 1).trans rfl
    go_simp
    with_reducible rfl
   rotate_left
   ·simp only [Act.put, List.setIfInBounds_toArray, List.set_cons_zero, List.set_cons_succ, i64_w, i32_w]
    rfl
   refine one_ (i := 6) (N := some 66) #[J_,J_,J_,J_,J_,J_,J_,N_,N_,N_,N_] rfl rfl (one_of HT_.out (by kernel_rfl)) (by decide) (fun K hK => ?_)
   refine event_step (by rfl) (w1 := W1.alloc (.cells #[.string name, .string v] 39)) (v := .slice (some ⟨W1.heap.size, 0, none⟩) 1 1) (by first | (go_simp; done) | (go_simp; rfl)) ?_
   refine hK.out _ _ ⟨blk_alloc HBk.out _, blk_alloc HX.out _⟩ (fun hHeld => ?_)
   clear hK K
   refine norm_ (a' := ?_) ?_ ?_
   rotate_left
   ·show Act.put _ (some 66) _ = _
    simp only [Act.put, List.setIfInBounds_toArray, List.set_cons_zero, List.set_cons_succ, i64_w, i32_w]
    rfl
   refine one_ (i := 7) (N := some 67) #[J_,J_,J_,J_,J_,J_,J_,J_,N_,N_,N_] rfl rfl (one_of HT_.out (by kernel_rfl)) (by decide) (fun K hK => ?_)
   refine Kd.R_append_step k39 (w0 := W) base (by rfl) (.tmp 64) (.tmp 66) 26 39 (.agg #[(.string ⟨#[]⟩), (.string ⟨#[]⟩)]) 32 rfl Try.underlying26 info39 rfl (by decide) (by omega) vS l (⟨name, v⟩ : S39) [.string name, .string v] (fun k_ => k_ ≠ g) (fun _ => False) rfl (by first | (go_simp; done) | (go_simp; rfl)) ?aP (fun _ hk => hk.elim) ?aF HR.out HB.out HBS.out ?aL ?_
   case aP => exact k39_mkM _ _ _ (⟨name, v⟩ : S39)
   case aF => intro k_ hk; have := blk_lt HBk.out; omega
   case aL => have := HL.out; omega
   intro v2 w9 ho hb hg2 hat
   have hbk2 : w9.heap[g]? = some (.cells #[.string r, vS] 59 (0, 0)) := (hg2.block g (blk_lt HBk.out) (fun e_ => HR.out.1 g e_.symm rfl)).trans HBk.out
   have hbx2 : w9.heap[gp]? = some (.cells #[.string name, .string v] 39 (0, 0)) := (hg2.block gp (blk_lt HX.out) (fun e_ => Nat.lt_irrefl _ (HR0.out.1 gp e_.symm).2)).trans HX.out
   refine hK.out _ _ ⟨hbk2, hbx2⟩ (fun hHeld => ?_)
   clear hK K
   refine norm_ (a' := ?_) ?_ ?_
   rotate_left
   ·show Act.put _ (some 67) _ = _
    simp only [Act.put, List.setIfInBounds_toArray, List.set_cons_zero, List.set_cons_succ, i64_w, i32_w]
    rfl
   refine scn_pY 8 68 #[J_,J_,J_,J_,J_,J_,J_,J_,J_,N_,N_] HT_.out ?_
   refine scn_pY 9 69 #[J_,J_,J_,J_,J_,J_,J_,J_,J_,J_,N_] HT_.out ?_
   refine last_ (i := 10) (N := none) #[J_,J_,J_,J_,J_,J_,J_,J_,J_,J_,J_] rfl rfl (one_of HT_.out (by kernel_rfl)) (by decide) (fun K hK => ?_)
   obtain ⟨A2, c2, rfl⟩ := Kd.R_slice ho
   have hc2_ : w9.cell? ⟨g, 1, none⟩ = some vS := (blk_cell hbk2 1).trans rfl
   have hf2_ : w9.frozen? ⟨g, 1, none⟩ = false := blk_frozen hbk2 1
   refine x_store_step (by rfl) rfl (w1 := w9.setCell ⟨g, 1, none⟩ (.slice A2 (l ++ [(⟨name, v⟩ : S39)]).length c2)) (by first | (go_simp; done) | (go_simp; rfl)) ?_
   refine hK.out _ _ ?_
   clear hK K
   refine done_ (done_of HT_.out (by kernel_rfl)) ?_
   have HS3 : Aside0 (ScnS (w9.setCell ⟨g, 1, none⟩ (.slice A2 (l ++ [(⟨name, v⟩ : S39)]).length c2)) g base (fun k => k ≠ g) r (l ++ [⟨name, v⟩])) := ⟨_, blk_put hbk2 1 _ rfl, Kd.R_far (p := ⟨g, 1, none⟩) ho (fun _ hk => hk) _, HGS.out, fun _ h => h⟩
   have HB3 := Aside0.mk (hb.setCell (p := ⟨g, 1, none⟩) HGS.out (.slice A2 (l ++ [(⟨name, v⟩ : S39)]).length c2))
   (try simp only [Exit.inBlock, Exit.then]); refine bodyPost_end (results_none rfl _ _ _) rfl ?_
   exact ⟨rfl, HS3.out, HB3.out⟩
  ·rw [if_neg hc] at hl'
   subst hl'
   cases c with
   | false =>
    clear hc
    go_wp2_with (first | (go_at_call 21; (with_reducible refine (label_Name.calls k _ _ _ HN.out).mono ?_); rintro e w8 ⟨rfl, hb⟩; have n1_ := Aside0.mk (HS.out.below hb); have n2_ := Aside0.mk (HB.out.trans (hb.mono HBS.out)); have n3_ := Aside0.mk (Nat.le_trans HBS.out hb.size); have n4_ := Aside0.mk (blk_below HX.out hb); clear HS HB HBS HX hb hp0 hp1; have HS := n1_; have HB := n2_; have HBS := n3_; have HX := n4_; clear n1_ n2_ n3_ n4_; have hp0 : _ = some (Value.string name) := (blk_cell HX.out 0).trans rfl; have hp1 : _ = some (Value.string v) := (blk_cell HX.out 1).trans rfl))
    (try simp only [Exit.inBlock, Exit.then]); refine bodyPost_end (results_none rfl _ _ _) rfl ?_
    exact ⟨rfl, HS.out.weak, HB.out⟩
   | true =>
    have hv : ¬ (v.size : Int) ≤ 256 := fun h => hc ⟨rfl, h⟩
    have hv1 : decide ((v.size : Int) ≤ 256) = false := decide_eq_false hv
    have hv2 : decide (v.size ≤ 256) = false := decide_eq_false (by omega)
    clear hv hc
    go_wp2_with (first | (go_at_call 21; (with_reducible refine (label_Name.calls k _ _ _ HN.out).mono ?_); rintro e w8 ⟨rfl, hb⟩; have n1_ := Aside0.mk (HS.out.below hb); have n2_ := Aside0.mk (HB.out.trans (hb.mono HBS.out)); have n3_ := Aside0.mk (Nat.le_trans HBS.out hb.size); have n4_ := Aside0.mk (blk_below HX.out hb); clear HS HB HBS HX hb hp0 hp1; have HS := n1_; have HB := n2_; have HBS := n3_; have HX := n4_; clear n1_ n2_ n3_ n4_; have hp0 : _ = some (Value.string name) := (blk_cell HX.out 0).trans rfl; have hp1 : _ = some (Value.string v) := (blk_cell HX.out 1).trans rfl))
    (try simp only [Exit.inBlock, Exit.then]); refine bodyPost_end (results_none rfl _ _ _) rfl ?_
    exact ⟨rfl, HS.out.weak, HB.out⟩
/-- the end of a field: the label, where it is right, and what is left -/
def logfmt_scanner_field.last (k : Nat) (l : List S39) (name v r : ByteArray) : Option (ByteArray × List S39) := (label_Name.f k name).bind fun c => some (r, if c = true ∧ (v.size : Int) ≤ 256 then l ++ [⟨name, v⟩] else l)
def logfmt_scanner_field.val (k : Nat) (l : List S39) (name q : ByteArray) : Option (ByteArray × List S39) := (quote_Get.f k q).bind fun z =>
 if z.2.2 = true then (if 0 ≤ z.2.1 ∧ z.2.1 ≤ (q.size : Int) then logfmt_scanner_field.last k l name z.1 (q.extract z.2.1.toNat q.size) else none)
 else (strings_IndexAny.f q ⟨#[32, 9, 10]⟩).bind fun j => if j ≤ (q.size : Int) then logfmt_scanner_field.last k l name (q.extract 0 (if j < 0 then (q.size : Int) else j).toNat) (q.extract (if j < 0 then (q.size : Int) else j).toNat q.size) else none
/-- one field of what is left: what is left behind it, the labels -/
def logfmt_scanner_field.f (k : Nat) (s : ByteArray) (l : List S39) : Option (ByteArray × List S39) :=
 if 0 < s.size ∧ l.length < 4398046511104 then
  (strings_IndexAny.f s ⟨#[32, 9, 10, 61, 34]⟩).bind fun i =>
   if i = 0 then some (s.extract 1 s.size, l)
   else if i ≤ (s.size : Int) ∧ ((s.extract 0 (if i < 0 then (s.size : Int) else i).toNat).toList == ([] : List UInt8)) = false then
    (strings_HasPrefix.f (s.extract (if i < 0 then (s.size : Int) else i).toNat s.size) ⟨#[61]⟩).bind fun b =>
     if b = true then (if 1 ≤ (s.extract (if i < 0 then (s.size : Int) else i).toNat s.size).size then logfmt_scanner_field.val k l (s.extract 0 (if i < 0 then (s.size : Int) else i).toNat) ((s.extract (if i < 0 then (s.size : Int) else i).toNat s.size).extract 1 (s.extract (if i < 0 then (s.size : Int) else i).toNat s.size).size) else none)
     else logfmt_scanner_field.last k l (s.extract 0 (if i < 0 then (s.size : Int) else i).toNat) ⟨#[]⟩ (s.extract (if i < 0 then (s.size : Int) else i).toNat s.size)
   else none
 else none
theorem logfmt_scanner_field.mono : ∀ s l k, LeO (logfmt_scanner_field.f k s l) (logfmt_scanner_field.f (k + 1) s l) := by
 intro s l k
 unfold logfmt_scanner_field.f logfmt_scanner_field.val logfmt_scanner_field.last
 repeat' first
  | (with_reducible exact quote_Get.mono _ _)
  | (with_reducible exact label_Name.mono _ _)
  | (with_reducible exact LeO.refl _)
  | (with_reducible exact LeO.none _)
  | (with_reducible refine LeO.ite ?_ ?_)
  | (with_reducible refine LeO.bind ?_ (fun _ => ?_))
set_option maxHeartbeats 4000000 in
theorem logfmt_scanner_field.calls (k : Nat) (W : World) (g base : Nat) (s : ByteArray) (l : List S39) (r : ByteArray) (l' : List S39) (hS : ScnS W g base (fun k => k ≠ g) s l) (hBase : base ≤ W.heap.size) (h : logfmt_scanner_field.f k s l = some (r, l')) :
  Calls Try.prog 25 #[.pointer (some ⟨g, 0, none⟩)] W fun e w' => e = .returned (.tuple #[]) ∧ ScnS w' g base (fun k => k ≠ g) r l' ∧ Below base W w' := by
 unfold logfmt_scanner_field.f at h
 by_cases h0 : 0 < s.size ∧ l.length < 4398046511104
 ·rw [if_pos h0] at h
  obtain ⟨i, hi, h⟩ := Option.bind_eq_some_iff.mp h
  have HI := fun w => strings_IndexAny.calls s ⟨#[32, 9, 10, 61, 34]⟩ i w hi
  by_cases h1 : i = 0
  ·subst h1
   rw [if_pos rfl] at h
   obtain ⟨rfl, rfl⟩ := Prod.mk.inj (Option.some.inj h)
   exact scn_field_none W g base s l hS hBase h0.1 HI
  ·rw [if_neg h1] at h
   by_cases h2 : i ≤ (s.size : Int) ∧ ((s.extract 0 (if i < 0 then (s.size : Int) else i).toNat).toList == ([] : List UInt8)) = false
   ·rw [if_pos h2] at h
    obtain ⟨b, hb, h⟩ := Option.bind_eq_some_iff.mp h
    have fin : ∀ v r0, logfmt_scanner_field.last k l (s.extract 0 (if i < 0 then (s.size : Int) else i).toNat) v r0 = some (r, l') → r0 = r ∧ ∃ c, label_Name.f k (s.extract 0 (if i < 0 then (s.size : Int) else i).toNat) = some c ∧ (if c = true ∧ (v.size : Int) ≤ 256 then l ++ [⟨s.extract 0 (if i < 0 then (s.size : Int) else i).toNat, v⟩] else l) = l' := fun v r0 hh => by
     unfold logfmt_scanner_field.last at hh
     obtain ⟨c, hc, hh⟩ := Option.bind_eq_some_iff.mp hh
     obtain ⟨e1, e2⟩ := Prod.mk.inj (Option.some.inj hh)
     exact ⟨e1, c, hc, e2⟩
    cases b with
    | false =>
     rw [if_neg (by simp)] at h
     obtain ⟨rfl, c, hc, hl⟩ := fin _ _ h
     exact scn_field_named k W g base s l i _ _ _ _ false c hS hBase h2.1 HI rfl rfl h2.2 hb (.inl ⟨rfl, rfl, rfl⟩) hc h0.2 l' hl
    | true =>
     rw [if_pos rfl] at h
     by_cases h3 : 1 ≤ (s.extract (if i < 0 then (s.size : Int) else i).toNat s.size).size
     ·rw [if_pos h3] at h
      unfold logfmt_scanner_field.val at h
      obtain ⟨⟨q1, n, ok⟩, hg, h⟩ := Option.bind_eq_some_iff.mp h
      cases ok with
      | true =>
       rw [if_pos rfl] at h
       by_cases h4 : 0 ≤ n ∧ n ≤ (((s.extract (if i < 0 then (s.size : Int) else i).toNat s.size).extract 1 (s.extract (if i < 0 then (s.size : Int) else i).toNat s.size).size).size : Int)
       ·rw [if_pos h4] at h
        obtain ⟨rfl, c, hc, hl⟩ := fin _ _ h
        exact scn_field_named k W g base s l i _ _ _ _ true c hS hBase h2.1 HI rfl rfl h2.2 hb (.inr ⟨rfl, h3, _, q1, n, true, rfl, hg, .inl ⟨rfl, h4.1, h4.2, rfl, rfl⟩⟩) hc h0.2 l' hl
       ·rw [if_neg h4] at h
        cases h
      | false =>
       rw [if_neg (by simp)] at h
       obtain ⟨j, hj, h⟩ := Option.bind_eq_some_iff.mp h
       have HJ := fun w => strings_IndexAny.calls _ ⟨#[32, 9, 10]⟩ j w hj
       by_cases h4 : j ≤ (((s.extract (if i < 0 then (s.size : Int) else i).toNat s.size).extract 1 (s.extract (if i < 0 then (s.size : Int) else i).toNat s.size).size).size : Int)
       ·rw [if_pos h4] at h
        obtain ⟨rfl, c, hc, hl⟩ := fin _ _ h
        exact scn_field_named k W g base s l i _ _ _ _ true c hS hBase h2.1 HI rfl rfl h2.2 hb (.inr ⟨rfl, h3, _, q1, n, false, rfl, hg, .inr ⟨rfl, j, _, rfl, h4, HJ, rfl, rfl⟩⟩) hc h0.2 l' hl
       ·rw [if_neg h4] at h
        cases h
     ·rw [if_neg h3] at h
      cases h
   ·rw [if_neg h2] at h
    cases h
 ·rw [if_neg h0] at h
  cases h

/-! ### logfmt_All: function 12 -/
def logfmt_All.l0 : Nat → ByteArray → List S39 → Option (List S39)
 | 0, _, _ => none
 | k + 1, s, l => if s.toList = [] then some l else if (l.length : Int) < 64 then (logfmt_scanner_field.f k s l).bind fun r => logfmt_All.l0 k r.1 r.2 else some l
def logfmt_All.f (k : Nat) (a0 : ByteArray) : Option (List S39) := logfmt_All.l0 k a0 []
theorem logfmt_All.mono_l : ∀ k, ∀ s l, LeO (logfmt_All.l0 k s l) (logfmt_All.l0 (k + 1) s l)
 | 0 => fun _ _ r h => by simp [logfmt_All.l0] at h
 | k + 1 => by
  have ih0 := logfmt_All.mono_l k
  intro s l
  unfold logfmt_All.l0
  repeat' first
   | (with_reducible exact ih0 _ _)
   | (with_reducible exact LeO.refl _)
   | (with_reducible exact logfmt_scanner_field.mono _ _ _)
   | (with_reducible refine LeO.ite ?_ ?_)
   | (with_reducible refine LeO.bind ?_ (fun _ => ?_))
theorem logfmt_All.mono : ∀ a0 k, LeO (logfmt_All.f k a0) (logfmt_All.f (k + 1) a0) := fun _ k => logfmt_All.mono_l k _ _
set_option maxHeartbeats 8000000 in
set_option maxRecDepth 100000 in
theorem logfmt_All.calls (k : Nat) (a0 : ByteArray) (r : List S39) (w : World) (h : logfmt_All.f k a0 = some r) :
  Calls Try.prog 12 #[.string a0] w fun e w' => ∃ v0_ : Value, e = .returned (v0_) ∧ Kd.R k39 39 w' w.heap.size (fun _ => True) v0_ r ∧ Below w.heap.size w w' := by
 have hu65 := Try.underlying59
 have hu63 := Try.underlying57
 have H' : Aside0 (logfmt_All.l0 k a0 [] = some r) := ⟨h⟩
 have HB := Aside0.mk (Below.refl w.heap.size w)
 clear h
 go_enter Try.func12, Try.ntmps12
 go_wp2_with ((with_reducible refine gate_dst (N := 7) rfl ?_); refine box_event ?hg (N := 7) ?hd (cs := #[.string a0, .slice none 0 0]) (t := 59) ?hr ?_; (case hd => rfl); (case hg => rfl); (case hr => first | (go_simp; done) | (go_simp; rfl)); intro g hg w1 hbox hb; have HS := Aside0.mk (show ScnS w1 g w.heap.size (fun k => k ≠ g) a0 [] from ⟨_, hbox, Kd.R_nil _ _ _ _ _, Nat.le_of_eq hg.symm, fun _ h => h⟩); have n1_ := Aside0.mk hb; have HBS := Aside0.mk hb.size; clear hg hbox hb HB; have HB := n1_; clear n1_)
 go_loopg [8] k (fun kq v8 w' => ∃ (s : ByteArray) (l : List S39), Aside0 (logfmt_All.l0 kq s l = some r) ∧ Aside0 (kq ≤ k) ∧ Aside0 (ScnS w' g w.heap.size (fun k => k ≠ g) s l) ∧ Aside0 (Below w.heap.size w w') ∧ Aside0 (w.heap.size ≤ w'.heap.size))
 case atStart => exact ⟨a0, [], H', ⟨Nat.le_refl _⟩, HS, HB, HBS⟩
 case round =>
  clear H' HS HB HBS
  obtain ⟨s, l, HA, HK1, HS, HB, HBS⟩ := hrel
  cases gk with
  | zero => exact absurd HA.out (by simp [logfmt_All.l0])
  | succ k1 =>
   have hH := HA.out
   clear HA
   simp only [logfmt_All.l0] at hH
   have hc0 := HS.out.cell
   obtain ⟨vS, hbk, hR, hg, hk⟩ := HS.out
   obtain ⟨A2, c2, rfl⟩ := Kd.R_slice hR
   have hc1 : wr.cell? ⟨g, 1, none⟩ = some (.slice A2 l.length c2) := (blk_cell hbk 1).trans rfl
   have HR := Aside0.mk hR
   clear hbk hR hg hk
   by_cases c4 : s.toList = []
   ·rw [if_pos c4] at hH
    obtain rfl := Option.some.inj hH
    have c4b0 : (s.toList == ([] : List UInt8)) = true := beq_iff_eq.mpr c4
    have c4b1 : (s.toList != ([] : List UInt8)) = false := bne_eq_false_iff_eq.mpr c4
    clear c4
    go_wp2
    repeat (go_quiet (fail); try go_wp2)
    go_ret
    exact ⟨_, rfl, Kd.R_mono (Kd.R_drewN HR.out 0) (fun _ _ => trivial), by repeat (first | exact HB.out | apply pw_below_drewN | apply below_drew)⟩
   ·rw [if_neg c4] at hH
    have c4b0 : (s.toList == ([] : List UInt8)) = false := beq_eq_false_iff_ne.mpr c4
    have c4b1 : (s.toList != ([] : List UInt8)) = true := bne_iff_ne.mpr c4
    clear c4
    by_cases c5 : (l.length : Int) < 64
    ·rw [if_pos c5] at hH
     have c5b0 := decide_eq_true c5
     have c5b1 : decide (l.length < 64) = true := decide_eq_true (by omega)
     clear c5
     obtain ⟨⟨s2, l2⟩, hf, hH⟩ := Option.bind_eq_some_iff.mp hH
     have HF2 := Aside0.mk hf
     have H' := Aside0.mk hH
     clear hf hH
     go_wp2_with (go_at_call 25; (with_reducible refine (logfmt_scanner_field.calls k1 _ g w.heap.size s l s2 l2 HS.out HBS.out HF2.out).mono ?_); rintro e w6 ⟨rfl, hS6, hB6⟩; have n1_ := Aside0.mk hS6; have n2_ := Aside0.mk (HB.out.trans hB6); have n3_ := Aside0.mk (Nat.le_trans HBS.out hB6.size); clear HS HB HBS hS6 hB6; have HS := n1_; have HB := n2_; have HBS := n3_; clear n1_ n2_ n3_)
     go_roundg k1
     case measure => have := HK1.out; omega
     case rel => exact ⟨s2, l2, H', ⟨by have := HK1.out; omega⟩, HS, HB, HBS⟩
    ·rw [if_neg c5] at hH
     obtain rfl := Option.some.inj hH
     have c5b0 : decide ((l.length : Int) < 64) = false := decide_eq_false c5
     have c5b1 : decide (l.length < 64) = false := decide_eq_false (by omega)
     clear c5
     go_wp2
     repeat (go_quiet (fail); try go_wp2)
     go_ret
     exact ⟨_, rfl, Kd.R_mono (Kd.R_drewN HR.out 0) (fun _ _ => trivial), by repeat (first | exact HB.out | apply pw_below_drewN | apply below_drew)⟩

end Go.Proofs.Ytielpefbgdilaaa.X
