-- Laid by xprint.py, a program of this session's, out of the translation.
import Derived.Test.YtjmbddgbojcpmaaDoorX0
import Derived.Test.YtjmbddgbojcpmaaDoorX1
import Derived.Test.YtjmbddgbojcpmaaDoorX3
import Derived.Test.YtjmbddgbojcpmaaDoorX6
import Derived.Test.YtjmbddgbojcpmaaDoorX9
import Derived.Test.YtjmbddgbojcpmaaDoorX11
namespace Go.Proofs.YtjmbddgbojcpmaaDoor.X
open Go.RowKit Go.Proofs.YtjmbddgbojcpmaaDoorW.PrintWords Go.Proofs.YtjmbddgbojcpmaaDoorW.PrintLast Go.Proofs.YtjmbddgbojcpmaaDoorW.PrintMore
attribute [local go_sem] max2_int min2_int max_two min_two max_three min_three max_four min_four x_isSome x_str_gtr x_str_leq x_str_geq   -- for this text's walks alone
set_option linter.unusedVariables false
set_option linter.unusedSimpArgs false

/-! ### archivistlaw13_examples: function 7 -/
def archivistlaw13_examples.LA : List S48 := [⟨⟨#[97]⟩, ⟨#[49]⟩⟩]
def archivistlaw13_examples.EA : S25 := ⟨-5, archivistlaw13_examples.LA, ⟨#[120]⟩⟩
def archivistlaw13_examples.EB : S25 := ⟨-5, archivistlaw13_examples.LA, ⟨#[121]⟩⟩
/-- the chapter's examples: each is so -/
def archivistlaw13_examples.f (k : Nat) : Option Bool :=
 (entry_Put.f k (-5) archivistlaw13_examples.LA ⟨#[120]⟩).bind fun s => (entry_Parse.f k (s ++ ⟨#[122]⟩)).bind fun p => (entry_Parse.f k ⟨#[53, 123, 125]⟩).bind fun q =>
 (entry_Same.f k (-5) archivistlaw13_examples.LA ⟨#[120]⟩ p.1 p.2.1 p.2.2.1).bind fun b1 => (entry_Order.f k (-5) archivistlaw13_examples.LA ⟨#[120]⟩ (-5) archivistlaw13_examples.LA ⟨#[121]⟩).bind fun o =>
 (entry_Ahead.f k (-5) archivistlaw13_examples.LA ⟨#[120]⟩ (-5) archivistlaw13_examples.LA ⟨#[121]⟩ true).bind fun b2 => (entry_Ahead.f k (-5) archivistlaw13_examples.LA ⟨#[121]⟩ (-5) archivistlaw13_examples.LA ⟨#[120]⟩ false).bind fun b3 =>
 (entry_Right.f k (-5) archivistlaw13_examples.LA ⟨#[120]⟩).bind fun b4 => (entry_Sorted.f k true [archivistlaw13_examples.EA, archivistlaw13_examples.EA, archivistlaw13_examples.EB]).bind fun b5 => (entry_Sorted.f k false [archivistlaw13_examples.EA, archivistlaw13_examples.EB]).bind fun b6 =>
 if s = ⟨#[45, 53, 123, 97, 61, 34, 49, 34, 125, 34, 120, 34]⟩ ∧ p.2.2.2.1 = 12 ∧ p.2.2.2.2 = true ∧ q.2.2.2.2 = false ∧ b1 = true ∧ o = -1 ∧ b2 = true ∧ b3 = true ∧ b4 = true ∧ b5 = true ∧ b6 = false then some true else none
theorem archivistlaw13_examples.reps1 {α : Type} {R : α → List Value → Prop} {x : α} {c : List Value} {sz : Nat} (h1 : R x c) (l1 : c.length = sz := by rfl) : Reps R sz [x] c := by
 refine ⟨by simp [l1], fun j p hj => ?_⟩
 match j, hj with
 | 0, hj => simp at hj; subst hj; simpa [← l1] using h1
theorem archivistlaw13_examples.reps2 {α : Type} {R : α → List Value → Prop} {x y : α} {c d : List Value} {sz : Nat} (h1 : R x c) (h2 : R y d) (l1 : c.length = sz := by rfl) (l2 : d.length = sz := by rfl) : Reps R sz [x, y] (c ++ d) := by
 refine ⟨by simp [l1, l2]; omega, fun j p hj => ?_⟩
 match j, hj with
 | 0, hj => simp at hj; subst hj; simpa [← l1] using h1
 | 1, hj => simp at hj; subst hj; rw [Nat.one_mul, ← l1, List.drop_left, l1, ← l2, List.take_length]; exact h2
theorem archivistlaw13_examples.reps3 {α : Type} {R : α → List Value → Prop} {x y z : α} {c d e : List Value} {sz : Nat} (h1 : R x c) (h2 : R y d) (h3 : R z e) (l1 : c.length = sz := by rfl) (l2 : d.length = sz := by rfl) (l3 : e.length = sz := by rfl) : Reps R sz [x, y, z] (c ++ (d ++ e)) := by
 refine ⟨by simp [l1, l2, l3]; omega, fun j p hj => ?_⟩
 match j, hj with
 | 0, hj => simp at hj; subst hj; simpa [← l1] using h1
 | 1, hj => simp at hj; subst hj; rw [Nat.one_mul, ← l1, List.drop_left, l1, ← l2, List.take_left]; exact h2
 | 2, hj => simp at hj; subst hj; rw [Nat.two_mul, ← List.drop_drop, ← l1, List.drop_left, l1, ← l2, List.drop_left, l2, ← l3, List.take_length]; exact h3
section
variable {W W1 : World} {n g : Nat}
/-- the two entries of the examples in memory, from block n on -/
def archivistlaw13_examples.Ex (n : Nat) (W : World) : Prop := W.heap[n]? = some (.cells #[.string ⟨#[97]⟩, .string ⟨#[49]⟩] 48 (0, 0)) ∧ W.heap[n + 1]? = some (.cells #[.int .i64 (-5), .slice (some ⟨n, 0, none⟩) 1 1, .string ⟨#[120]⟩] 25 (0, 0)) ∧
 W.heap[n + 1 + 1]? = some (.cells #[.string ⟨#[97]⟩, .string ⟨#[49]⟩] 48 (0, 0)) ∧ W.heap[n + 1 + 1 + 1]? = some (.cells #[.int .i64 (-5), .slice (some ⟨n + 1 + 1, 0, none⟩) 1 1, .string ⟨#[121]⟩] 25 (0, 0))
theorem archivistlaw13_examples.Ex.below (h : archivistlaw13_examples.Ex n W) (hb : Below W.heap.size W W1) : archivistlaw13_examples.Ex n W1 := ⟨blk_below h.1 hb, blk_below h.2.1 hb, blk_below h.2.2.1 hb, blk_below h.2.2.2 hb⟩
theorem archivistlaw13_examples.rowR (base : Nat) (ok : Nat → Prop) (hb : base ≤ g) (hok : ok g) (h : W.heap[g]? = some (.cells #[.string ⟨#[97]⟩, .string ⟨#[49]⟩] 48 (0, 0))) : Kd.R k48 48 W base ok (.slice (some ⟨g, 0, none⟩) 1 1) archivistlaw13_examples.LA :=
 ⟨fun k hk => by simp only [Value.ownBlock, Option.some.injEq] at hk; exact hk ▸ hok, [.string ⟨#[97]⟩, .string ⟨#[49]⟩], ⟨rfl, .inr ⟨g, 1, _, rfl, hb, h, Nat.le_refl _, by decide, rfl, rfl⟩⟩, archivistlaw13_examples.reps1 (k48_mkM W base _ (⟨⟨#[97]⟩, ⟨#[49]⟩⟩ : S48))⟩
theorem archivistlaw13_examples.rowC (h : W.heap[g]? = some (.cells #[.string ⟨#[97]⟩, .string ⟨#[49]⟩] 48 (0, 0))) : Kd.C k48 W (some ⟨g, 0, none⟩) archivistlaw13_examples.LA.length archivistlaw13_examples.LA := (Kd.R_reads' (n := 1) (c := 1) (archivistlaw13_examples.rowR 0 (fun _ => True) (Nat.zero_le _) trivial h)).2.2
theorem archivistlaw13_examples.three (h : archivistlaw13_examples.Ex n W) (m : Nat) (hm : m = W.heap.size) : Kd.C k25 (W.alloc (.cells #[.int .i64 (-5), .slice (some ⟨n, 0, none⟩) 1 1, .string ⟨#[120]⟩, .int .i64 (-5), .slice (some ⟨n, 0, none⟩) 1 1, .string ⟨#[120]⟩, .int .i64 (-5), .slice (some ⟨n + 1 + 1, 0, none⟩) 1 1, .string ⟨#[121]⟩] 25)) (some ⟨m, 0, none⟩) [archivistlaw13_examples.EA, archivistlaw13_examples.EA, archivistlaw13_examples.EB].length [archivistlaw13_examples.EA, archivistlaw13_examples.EA, archivistlaw13_examples.EB] := by
 subst hm
 have l1 := blk_lt h.1
 have l2 := blk_lt h.2.2.1
 refine (Kd.R_reads' (e := 25) (base := 0) (ok := fun _ => True) (n := 3) (c := 3) ?_).2.2
 refine ⟨fun k hk => trivial, _, ⟨rfl, .inr ⟨_, 3, _, rfl, Nat.zero_le _, blk_new _ _, Nat.le_refl _, by decide, rfl, rfl⟩⟩, ?_⟩
 have a := fun (ok : Nat → Prop) (hok : ok n) => archivistlaw13_examples.rowR (W := W.alloc (.cells #[.int .i64 (-5), .slice (some ⟨n, 0, none⟩) 1 1, .string ⟨#[120]⟩, .int .i64 (-5), .slice (some ⟨n, 0, none⟩) 1 1, .string ⟨#[120]⟩, .int .i64 (-5), .slice (some ⟨n + 1 + 1, 0, none⟩) 1 1, .string ⟨#[121]⟩] 25)) 0 ok (Nat.zero_le _) hok (blk_alloc h.1 _)
 have b := fun (ok : Nat → Prop) (hok : ok (n + 1 + 1)) => archivistlaw13_examples.rowR (W := W.alloc (.cells #[.int .i64 (-5), .slice (some ⟨n, 0, none⟩) 1 1, .string ⟨#[120]⟩, .int .i64 (-5), .slice (some ⟨n, 0, none⟩) 1 1, .string ⟨#[120]⟩, .int .i64 (-5), .slice (some ⟨n + 1 + 1, 0, none⟩) 1 1, .string ⟨#[121]⟩] 25)) 0 ok (Nat.zero_le _) hok (blk_alloc h.2.2.1 _)
 refine archivistlaw13_examples.reps3 (k25_mkM _ _ _ archivistlaw13_examples.EA (a _ ⟨trivial, ?_⟩)) (k25_mkM _ _ _ archivistlaw13_examples.EA (a _ ⟨trivial, ?_⟩)) (k25_mkM _ _ _ archivistlaw13_examples.EB (b _ ⟨trivial, ?_⟩))
 all_goals
  simp only [Value.ownBlock, ne_eq, Option.some.injEq]
  omega
theorem archivistlaw13_examples.two (h : archivistlaw13_examples.Ex n W) (m : Nat) (hm : m = W.heap.size) : Kd.C k25 (W.alloc (.cells #[.int .i64 (-5), .slice (some ⟨n, 0, none⟩) 1 1, .string ⟨#[120]⟩, .int .i64 (-5), .slice (some ⟨n + 1 + 1, 0, none⟩) 1 1, .string ⟨#[121]⟩] 25)) (some ⟨m, 0, none⟩) [archivistlaw13_examples.EA, archivistlaw13_examples.EB].length [archivistlaw13_examples.EA, archivistlaw13_examples.EB] := by
 subst hm
 have l1 := blk_lt h.1
 have l2 := blk_lt h.2.2.1
 refine (Kd.R_reads' (e := 25) (base := 0) (ok := fun _ => True) (n := 2) (c := 2) ?_).2.2
 refine ⟨fun k hk => trivial, _, ⟨rfl, .inr ⟨_, 2, _, rfl, Nat.zero_le _, blk_new _ _, Nat.le_refl _, by decide, rfl, rfl⟩⟩, ?_⟩
 have a := fun (ok : Nat → Prop) (hok : ok n) => archivistlaw13_examples.rowR (W := W.alloc (.cells #[.int .i64 (-5), .slice (some ⟨n, 0, none⟩) 1 1, .string ⟨#[120]⟩, .int .i64 (-5), .slice (some ⟨n + 1 + 1, 0, none⟩) 1 1, .string ⟨#[121]⟩] 25)) 0 ok (Nat.zero_le _) hok (blk_alloc h.1 _)
 have b := fun (ok : Nat → Prop) (hok : ok (n + 1 + 1)) => archivistlaw13_examples.rowR (W := W.alloc (.cells #[.int .i64 (-5), .slice (some ⟨n, 0, none⟩) 1 1, .string ⟨#[120]⟩, .int .i64 (-5), .slice (some ⟨n + 1 + 1, 0, none⟩) 1 1, .string ⟨#[121]⟩] 25)) 0 ok (Nat.zero_le _) hok (blk_alloc h.2.2.1 _)
 refine archivistlaw13_examples.reps2 (k25_mkM _ _ _ archivistlaw13_examples.EA (a _ ⟨trivial, ?_⟩)) (k25_mkM _ _ _ archivistlaw13_examples.EB (b _ ⟨trivial, ?_⟩))
 all_goals
  simp only [Value.ownBlock, ne_eq, Option.some.injEq]
  omega
end
theorem archivistlaw13_examples.mono : ∀ k, LeO (archivistlaw13_examples.f k) (archivistlaw13_examples.f (k + 1)) := by
 intro k
 unfold archivistlaw13_examples.f
 repeat' first
  | (with_reducible exact entry_Put.mono _ _ _ _)
  | (with_reducible exact entry_Parse.mono _ _)
  | (with_reducible exact entry_Same.mono _ _ _ _ _ _ _)
  | (with_reducible exact entry_Order.mono _ _ _ _ _ _ _)
  | (with_reducible exact entry_Ahead.mono _ _ _ _ _ _ _ _)
  | (with_reducible exact entry_Right.mono _ _ _ _)
  | (with_reducible exact entry_Sorted.mono _ _ _)
  | (with_reducible exact LeO.refl _)
  | (with_reducible exact LeO.none _)
  | (with_reducible refine LeO.ite ?_ ?_)
  | (with_reducible refine LeO.bind ?_ (fun _ => ?_))
set_option maxHeartbeats 8000000 in
set_option maxRecDepth 100000 in
theorem archivistlaw13_examples.calls (k : Nat) (r : Bool) (w : World) (h : archivistlaw13_examples.f k = some r) (hLd : Laid w) :
  Calls Tryd.prog 7 #[] w fun e w' => e = .returned (.bool r) ∧ Below w.heap.size w w' := by
 unfold archivistlaw13_examples.f at h
 obtain ⟨s, hs, h⟩ := Option.bind_eq_some_iff.mp h
 obtain ⟨⟨p1, p2, p3, p4, p5⟩, hp, h⟩ := Option.bind_eq_some_iff.mp h
 obtain ⟨⟨q1, q2, q3, q4, q5⟩, hq, h⟩ := Option.bind_eq_some_iff.mp h
 obtain ⟨b1, e1, h⟩ := Option.bind_eq_some_iff.mp h
 obtain ⟨o, e2, h⟩ := Option.bind_eq_some_iff.mp h
 obtain ⟨b2, e3, h⟩ := Option.bind_eq_some_iff.mp h
 obtain ⟨b3, e4, h⟩ := Option.bind_eq_some_iff.mp h
 obtain ⟨b4, e5, h⟩ := Option.bind_eq_some_iff.mp h
 obtain ⟨b5, e6, h⟩ := Option.bind_eq_some_iff.mp h
 obtain ⟨b6, e7, h⟩ := Option.bind_eq_some_iff.mp h
 split at h
 case isFalse => cases h
 rename_i hc
 obtain rfl := Option.some.inj h
 clear h
 dsimp only at hc
 obtain ⟨rfl, rfl, rfl, rfl, rfl, rfl, rfl, rfl, rfl, rfl, rfl⟩ := hc
 have HS := Aside0.mk hs
 have HP := Aside0.mk hp
 have HQ := Aside0.mk hq
 have E1 := Aside0.mk e1
 have E2 := Aside0.mk e2
 have E3 := Aside0.mk e3
 have E4 := Aside0.mk e4
 have E5 := Aside0.mk e5
 have E6 := Aside0.mk e6
 have E7 := Aside0.mk e7
 have HL := Aside0.mk hLd
 clear hs hp hq e1 e2 e3 e4 e5 e6 e7 hLd
 have KP := Aside0.mk (show ∀ W : World, archivistlaw13_examples.Ex w.heap.size W → Laid W → Calls Tryd.prog 9 #[.agg #[.int .i64 (-5), .slice (some ⟨w.heap.size, 0, none⟩) 1 1, .string ⟨#[120]⟩]] W fun e w' => e = .returned (.string ⟨#[45, 53, 123, 97, 61, 34, 49, 34, 125, 34, 120, 34]⟩) ∧ Below W.heap.size W w' from fun W hE hl => entry_Put.calls k (-5) _ _ archivistlaw13_examples.LA ⟨#[120]⟩ _ W (archivistlaw13_examples.rowC hE.1) (Nat.le_refl _) HS.out hl)
 have KS := Aside0.mk (show ∀ W : World, archivistlaw13_examples.Ex w.heap.size W → ∀ (A : Option Addr) (c : Nat), Kd.C k48 W A p2.length p2 → p2.length ≤ c → Calls Tryd.prog 12 #[.agg #[.int .i64 (-5), .slice (some ⟨w.heap.size, 0, none⟩) 1 1, .string ⟨#[120]⟩], .agg #[.int .i64 p1, .slice A p2.length c, .string p3]] W fun e w' => e = .returned (.bool true) ∧ Below W.heap.size W w' from fun W hE A c h1 h2 => entry_Same.calls k (-5) _ _ archivistlaw13_examples.LA ⟨#[120]⟩ p1 _ _ p2 p3 true W (archivistlaw13_examples.rowC hE.1) (Nat.le_refl _) h1 h2 E1.out)
 have KO := Aside0.mk (show ∀ W : World, archivistlaw13_examples.Ex w.heap.size W → Calls Tryd.prog 13 #[.agg #[.int .i64 (-5), .slice (some ⟨w.heap.size, 0, none⟩) 1 1, .string ⟨#[120]⟩], .agg #[.int .i64 (-5), .slice (some ⟨w.heap.size + 1 + 1, 0, none⟩) 1 1, .string ⟨#[121]⟩]] W fun e w' => e = .returned (.int .i64 (-1)) ∧ Below W.heap.size W w' from fun W hE => entry_Order.calls k (-5) _ _ archivistlaw13_examples.LA ⟨#[120]⟩ (-5) _ _ archivistlaw13_examples.LA ⟨#[121]⟩ (-1) W (archivistlaw13_examples.rowC hE.1) (Nat.le_refl _) (archivistlaw13_examples.rowC hE.2.2.1) (Nat.le_refl _) E2.out)
 have KA := Aside0.mk (show ∀ W : World, archivistlaw13_examples.Ex w.heap.size W → Calls Tryd.prog 14 #[.agg #[.int .i64 (-5), .slice (some ⟨w.heap.size, 0, none⟩) 1 1, .string ⟨#[120]⟩], .agg #[.int .i64 (-5), .slice (some ⟨w.heap.size + 1 + 1, 0, none⟩) 1 1, .string ⟨#[121]⟩], .bool true] W fun e w' => e = .returned (.bool true) ∧ Below W.heap.size W w' from fun W hE => entry_Ahead.calls k (-5) _ _ archivistlaw13_examples.LA ⟨#[120]⟩ (-5) _ _ archivistlaw13_examples.LA ⟨#[121]⟩ true true W (archivistlaw13_examples.rowC hE.1) (Nat.le_refl _) (archivistlaw13_examples.rowC hE.2.2.1) (Nat.le_refl _) E3.out)
 have KB := Aside0.mk (show ∀ W : World, archivistlaw13_examples.Ex w.heap.size W → Calls Tryd.prog 14 #[.agg #[.int .i64 (-5), .slice (some ⟨w.heap.size + 1 + 1, 0, none⟩) 1 1, .string ⟨#[121]⟩], .agg #[.int .i64 (-5), .slice (some ⟨w.heap.size, 0, none⟩) 1 1, .string ⟨#[120]⟩], .bool false] W fun e w' => e = .returned (.bool true) ∧ Below W.heap.size W w' from fun W hE => entry_Ahead.calls k (-5) _ _ archivistlaw13_examples.LA ⟨#[121]⟩ (-5) _ _ archivistlaw13_examples.LA ⟨#[120]⟩ false true W (archivistlaw13_examples.rowC hE.2.2.1) (Nat.le_refl _) (archivistlaw13_examples.rowC hE.1) (Nat.le_refl _) E4.out)
 have KR := Aside0.mk (show ∀ W : World, archivistlaw13_examples.Ex w.heap.size W → Calls Tryd.prog 11 #[.agg #[.int .i64 (-5), .slice (some ⟨w.heap.size, 0, none⟩) 1 1, .string ⟨#[120]⟩]] W fun e w' => e = .returned (.bool true) ∧ Below W.heap.size W w' from fun W hE => entry_Right.calls k (-5) _ _ archivistlaw13_examples.LA ⟨#[120]⟩ true W (archivistlaw13_examples.rowC hE.1) (Nat.le_refl _) E5.out)
 have KC := Aside0.mk (show ∀ W : World, archivistlaw13_examples.Ex w.heap.size W → Calls Tryd.prog 17 #[.agg #[.int .i64 (-5), .slice (some ⟨w.heap.size, 0, none⟩) 1 1, .string ⟨#[120]⟩]] W fun e w' => e = .returned (.int .i64 1) ∧ Below W.heap.size W w' from fun W hE => entry_Cost.calls (-5) _ _ archivistlaw13_examples.LA ⟨#[120]⟩ 1 W (archivistlaw13_examples.rowC hE.1) (Nat.le_refl _) rfl)
 have KT := Aside0.mk (show ∀ W : World, archivistlaw13_examples.Ex w.heap.size W → Calls Tryd.prog 16 #[.bool true, .slice (some ⟨W.heap.size, 0, none⟩) 3 3] (W.alloc (.cells #[.int .i64 (-5), .slice (some ⟨w.heap.size, 0, none⟩) 1 1, .string ⟨#[120]⟩, .int .i64 (-5), .slice (some ⟨w.heap.size, 0, none⟩) 1 1, .string ⟨#[120]⟩, .int .i64 (-5), .slice (some ⟨w.heap.size + 1 + 1, 0, none⟩) 1 1, .string ⟨#[121]⟩] 25)) fun e w' => e = .returned (.bool true) ∧ Below (W.alloc (.cells #[.int .i64 (-5), .slice (some ⟨w.heap.size, 0, none⟩) 1 1, .string ⟨#[120]⟩, .int .i64 (-5), .slice (some ⟨w.heap.size, 0, none⟩) 1 1, .string ⟨#[120]⟩, .int .i64 (-5), .slice (some ⟨w.heap.size + 1 + 1, 0, none⟩) 1 1, .string ⟨#[121]⟩] 25)).heap.size (W.alloc (.cells #[.int .i64 (-5), .slice (some ⟨w.heap.size, 0, none⟩) 1 1, .string ⟨#[120]⟩, .int .i64 (-5), .slice (some ⟨w.heap.size, 0, none⟩) 1 1, .string ⟨#[120]⟩, .int .i64 (-5), .slice (some ⟨w.heap.size + 1 + 1, 0, none⟩) 1 1, .string ⟨#[121]⟩] 25)) w' from fun W hE => entry_Sorted.calls k true _ _ [archivistlaw13_examples.EA, archivistlaw13_examples.EA, archivistlaw13_examples.EB] true _ (archivistlaw13_examples.three hE _ rfl) (Nat.le_refl _) E6.out)
 have KU := Aside0.mk (show ∀ W : World, archivistlaw13_examples.Ex w.heap.size W → Calls Tryd.prog 16 #[.bool false, .slice (some ⟨W.heap.size, 0, none⟩) 2 2] (W.alloc (.cells #[.int .i64 (-5), .slice (some ⟨w.heap.size, 0, none⟩) 1 1, .string ⟨#[120]⟩, .int .i64 (-5), .slice (some ⟨w.heap.size + 1 + 1, 0, none⟩) 1 1, .string ⟨#[121]⟩] 25)) fun e w' => e = .returned (.bool false) ∧ Below (W.alloc (.cells #[.int .i64 (-5), .slice (some ⟨w.heap.size, 0, none⟩) 1 1, .string ⟨#[120]⟩, .int .i64 (-5), .slice (some ⟨w.heap.size + 1 + 1, 0, none⟩) 1 1, .string ⟨#[121]⟩] 25)).heap.size (W.alloc (.cells #[.int .i64 (-5), .slice (some ⟨w.heap.size, 0, none⟩) 1 1, .string ⟨#[120]⟩, .int .i64 (-5), .slice (some ⟨w.heap.size + 1 + 1, 0, none⟩) 1 1, .string ⟨#[121]⟩] 25)) w' from fun W hE => entry_Sorted.calls k false _ _ [archivistlaw13_examples.EA, archivistlaw13_examples.EB] false _ (archivistlaw13_examples.two hE _ rfl) (Nat.le_refl _) E7.out)
 clear HS E1 E2 E3 E4 E5 E6 E7
 have HE := Aside0.mk (show archivistlaw13_examples.Ex w.heap.size ((((w.alloc (.cells #[.string ⟨#[97]⟩, .string ⟨#[49]⟩] 48)).alloc (.cells #[.int .i64 (-5), .slice (some ⟨w.heap.size, 0, none⟩) 1 1, .string ⟨#[120]⟩] 25)).alloc (.cells #[.string ⟨#[97]⟩, .string ⟨#[49]⟩] 48)).alloc (.cells #[.int .i64 (-5), .slice (some ⟨w.heap.size + 1 + 1, 0, none⟩) 1 1, .string ⟨#[121]⟩] 25)) from ⟨blk_alloc (blk_alloc (blk_alloc (blk_new w _) _) _) _, by have := blk_alloc (blk_alloc (blk_new (w.alloc (.cells #[.string ⟨#[97]⟩, .string ⟨#[49]⟩] 48)) (.cells #[.int .i64 (-5), .slice (some ⟨w.heap.size, 0, none⟩) 1 1, .string ⟨#[120]⟩] 25)) (.cells #[.string ⟨#[97]⟩, .string ⟨#[49]⟩] 48)) (.cells #[.int .i64 (-5), .slice (some ⟨w.heap.size + 1 + 1, 0, none⟩) 1 1, .string ⟨#[121]⟩] 25); simpa using this, by have := blk_alloc (blk_new ((w.alloc (.cells #[.string ⟨#[97]⟩, .string ⟨#[49]⟩] 48)).alloc (.cells #[.int .i64 (-5), .slice (some ⟨w.heap.size, 0, none⟩) 1 1, .string ⟨#[120]⟩] 25)) (.cells #[.string ⟨#[97]⟩, .string ⟨#[49]⟩] 48)) (.cells #[.int .i64 (-5), .slice (some ⟨w.heap.size + 1 + 1, 0, none⟩) 1 1, .string ⟨#[121]⟩] 25); simpa using this, by have := blk_new (((w.alloc (.cells #[.string ⟨#[97]⟩, .string ⟨#[49]⟩] 48)).alloc (.cells #[.int .i64 (-5), .slice (some ⟨w.heap.size, 0, none⟩) 1 1, .string ⟨#[120]⟩] 25)).alloc (.cells #[.string ⟨#[97]⟩, .string ⟨#[49]⟩] 48)) (.cells #[.int .i64 (-5), .slice (some ⟨w.heap.size + 1 + 1, 0, none⟩) 1 1, .string ⟨#[121]⟩] 25); simpa using this⟩)
 have HB := Aside0.mk (below_alloc (below_alloc (below_alloc (below_alloc (Below.refl w.heap.size w) (.cells #[.string ⟨#[97]⟩, .string ⟨#[49]⟩] 48)) (.cells #[.int .i64 (-5), .slice (some ⟨w.heap.size, 0, none⟩) 1 1, .string ⟨#[120]⟩] 25)) (.cells #[.string ⟨#[97]⟩, .string ⟨#[49]⟩] 48)) (.cells #[.int .i64 (-5), .slice (some ⟨w.heap.size + 1 + 1, 0, none⟩) 1 1, .string ⟨#[121]⟩] 25))
 go_enter Tryd.func7, Tryd.ntmps7
 go_upto_region 3 with (fail)
 generalize ((((w.alloc (.cells #[.string ⟨#[97]⟩, .string ⟨#[49]⟩] 48)).alloc (.cells #[.int .i64 (-5), .slice (some ⟨w.heap.size, 0, none⟩) 1 1, .string ⟨#[120]⟩] 25)).alloc (.cells #[.string ⟨#[97]⟩, .string ⟨#[49]⟩] 48)).alloc (.cells #[.int .i64 (-5), .slice (some ⟨w.heap.size + 1 + 1, 0, none⟩) 1 1, .string ⟨#[121]⟩] 25)) = W1 at HE HB ⊢
 have x0 : W1.cell? ⟨w.heap.size + 1, 0, none⟩ = some (.int .i64 (-5)) := (blk_cell HE.out.2.1 0).trans rfl
 have x1 : W1.cell? ⟨w.heap.size + 1, 1, none⟩ = some (.slice (some ⟨w.heap.size, 0, none⟩) 1 1) := (blk_cell HE.out.2.1 1).trans rfl
 have x2 : W1.cell? ⟨w.heap.size + 1, 2, none⟩ = some (.string ⟨#[120]⟩) := (blk_cell HE.out.2.1 2).trans rfl
 have y0 : W1.cell? ⟨w.heap.size + 1 + 1 + 1, 0, none⟩ = some (.int .i64 (-5)) := (blk_cell HE.out.2.2.2 0).trans rfl
 have y1 : W1.cell? ⟨w.heap.size + 1 + 1 + 1, 1, none⟩ = some (.slice (some ⟨w.heap.size + 1 + 1, 0, none⟩) 1 1) := (blk_cell HE.out.2.2.2 1).trans rfl
 have y2 : W1.cell? ⟨w.heap.size + 1 + 1 + 1, 2, none⟩ = some (.string ⟨#[121]⟩) := (blk_cell HE.out.2.2.2 2).trans rfl
 go_upto_region 4 with (first | (go_at_call 9; (with_reducible refine (KP.out _ HE.out (laid_below HL.out HB.out)).mono ?_); rintro e w2 ⟨rfl, hb⟩; have n1_ := Aside0.mk (HE.out.below hb); have n2_ := Aside0.mk (below_step HB.out hb); clear x0 x1 x2 y0 y1 y2; clear HE HB hb; have HE := n1_; have HB := n2_; clear n1_ n2_; have x0 : w2.cell? ⟨w.heap.size + 1, 0, none⟩ = some (.int .i64 (-5)) := (blk_cell HE.out.2.1 0).trans rfl; have x1 : w2.cell? ⟨w.heap.size + 1, 1, none⟩ = some (.slice (some ⟨w.heap.size, 0, none⟩) 1 1) := (blk_cell HE.out.2.1 1).trans rfl; have x2 : w2.cell? ⟨w.heap.size + 1, 2, none⟩ = some (.string ⟨#[120]⟩) := (blk_cell HE.out.2.1 2).trans rfl; have y0 : w2.cell? ⟨w.heap.size + 1 + 1 + 1, 0, none⟩ = some (.int .i64 (-5)) := (blk_cell HE.out.2.2.2 0).trans rfl; have y1 : w2.cell? ⟨w.heap.size + 1 + 1 + 1, 1, none⟩ = some (.slice (some ⟨w.heap.size + 1 + 1, 0, none⟩) 1 1) := (blk_cell HE.out.2.2.2 1).trans rfl; have y2 : w2.cell? ⟨w.heap.size + 1 + 1 + 1, 2, none⟩ = some (.string ⟨#[121]⟩) := (blk_cell HE.out.2.2.2 2).trans rfl))
 go_upto_region 5 with (first | (go_at_call 10; (with_reducible refine (entry_Parse.calls k _ p1 p2 p3 12 true _ HP.out (laid_below HL.out HB.out)).mono ?_); rintro e w3 ⟨v1, rfl, hR, hb⟩; have n1_ := Aside0.mk (HE.out.below hb); have n2_ := Aside0.mk (below_step HB.out hb); clear x0 x1 x2 y0 y1 y2; clear HE HB hb; have HE := n1_; have HB := n2_; clear n1_ n2_; have x0 : w3.cell? ⟨w.heap.size + 1, 0, none⟩ = some (.int .i64 (-5)) := (blk_cell HE.out.2.1 0).trans rfl; have x1 : w3.cell? ⟨w.heap.size + 1, 1, none⟩ = some (.slice (some ⟨w.heap.size, 0, none⟩) 1 1) := (blk_cell HE.out.2.1 1).trans rfl; have x2 : w3.cell? ⟨w.heap.size + 1, 2, none⟩ = some (.string ⟨#[120]⟩) := (blk_cell HE.out.2.1 2).trans rfl; have y0 : w3.cell? ⟨w.heap.size + 1 + 1 + 1, 0, none⟩ = some (.int .i64 (-5)) := (blk_cell HE.out.2.2.2 0).trans rfl; have y1 : w3.cell? ⟨w.heap.size + 1 + 1 + 1, 1, none⟩ = some (.slice (some ⟨w.heap.size + 1 + 1, 0, none⟩) 1 1) := (blk_cell HE.out.2.2.2 1).trans rfl; have y2 : w3.cell? ⟨w.heap.size + 1 + 1 + 1, 2, none⟩ = some (.string ⟨#[121]⟩) := (blk_cell HE.out.2.2.2 2).trans rfl; obtain ⟨Ap, cp, rfl⟩ := Kd.R_slice hR; have HR := Aside0.mk (Kd.R_reads' hR); clear hR))
 clear x0 x1 x2 y0 y1 y2
 have HPc := Aside0.mk HR.out.2.1
 have n4_ := Aside0.mk (Kd.C_below HR.out.2.2 (below_alloc (Below.refl _ _) (.cells #[.int .i64 p1, .slice Ap p2.length cp, .string p3] 25)))
 have n3_ := Aside0.mk (blk_new w3 (.cells #[.int .i64 p1, .slice Ap p2.length cp, .string p3] 25))
 have n1_ := Aside0.mk (HE.out.below (below_alloc (Below.refl _ _) (.cells #[.int .i64 p1, .slice Ap p2.length cp, .string p3] 25)))
 have n2_ := Aside0.mk (below_alloc HB.out (.cells #[.int .i64 p1, .slice Ap p2.length cp, .string p3] 25))
 clear HE HB HR
 have HE := n1_
 have HB := n2_
 have HC := n3_
 have HR := n4_
 clear n1_ n2_ n3_ n4_
 generalize w3.alloc (.cells #[.int .i64 p1, .slice Ap p2.length cp, .string p3] 25) = W5 at HE HB HC HR ⊢
 generalize w3.heap.size = gc at HC ⊢
 have x0 : W5.cell? ⟨w.heap.size + 1, 0, none⟩ = some (.int .i64 (-5)) := (blk_cell HE.out.2.1 0).trans rfl
 have x1 : W5.cell? ⟨w.heap.size + 1, 1, none⟩ = some (.slice (some ⟨w.heap.size, 0, none⟩) 1 1) := (blk_cell HE.out.2.1 1).trans rfl
 have x2 : W5.cell? ⟨w.heap.size + 1, 2, none⟩ = some (.string ⟨#[120]⟩) := (blk_cell HE.out.2.1 2).trans rfl
 have y0 : W5.cell? ⟨w.heap.size + 1 + 1 + 1, 0, none⟩ = some (.int .i64 (-5)) := (blk_cell HE.out.2.2.2 0).trans rfl
 have y1 : W5.cell? ⟨w.heap.size + 1 + 1 + 1, 1, none⟩ = some (.slice (some ⟨w.heap.size + 1 + 1, 0, none⟩) 1 1) := (blk_cell HE.out.2.2.2 1).trans rfl
 have y2 : W5.cell? ⟨w.heap.size + 1 + 1 + 1, 2, none⟩ = some (.string ⟨#[121]⟩) := (blk_cell HE.out.2.2.2 2).trans rfl
 go_upto_region 6 with (first | (go_at_call 10; (with_reducible refine (entry_Parse.calls k _ q1 q2 q3 q4 false _ HQ.out (laid_below HL.out HB.out)).mono ?_); rintro e w6 ⟨v2, rfl, hR, hb⟩; have n1_ := Aside0.mk (HE.out.below hb); have n2_ := Aside0.mk (below_step HB.out hb); have n3_ := Aside0.mk (blk_below HC.out hb); have n4_ := Aside0.mk (Kd.C_below HR.out hb); clear x0 x1 x2 y0 y1 y2; clear HE HB HC HR hb; have HE := n1_; have HB := n2_; have HC := n3_; have HR := n4_; clear n1_ n2_ n3_ n4_; obtain ⟨Aq, cq, rfl⟩ := Kd.R_slice hR; clear hR))
 have n4_ := Aside0.mk (Kd.C_below HR.out (below_alloc (Below.refl _ _) (.cells #[.int .i64 q1, .slice Aq q2.length cq, .string q3] 25)))
 have n3_ := Aside0.mk (blk_alloc HC.out (.cells #[.int .i64 q1, .slice Aq q2.length cq, .string q3] 25))
 have n1_ := Aside0.mk (HE.out.below (below_alloc (Below.refl _ _) (.cells #[.int .i64 q1, .slice Aq q2.length cq, .string q3] 25)))
 have n2_ := Aside0.mk (below_alloc HB.out (.cells #[.int .i64 q1, .slice Aq q2.length cq, .string q3] 25))
 clear HE HB HC HR
 have HE := n1_
 have HB := n2_
 have HC := n3_
 have HR := n4_
 clear n1_ n2_ n3_ n4_
 generalize w6.alloc (.cells #[.int .i64 q1, .slice Aq q2.length cq, .string q3] 25) = W7 at HE HB HC HR ⊢
 generalize w6.heap.size = gq at ⊢
 have x0 : W7.cell? ⟨w.heap.size + 1, 0, none⟩ = some (.int .i64 (-5)) := (blk_cell HE.out.2.1 0).trans rfl
 have x1 : W7.cell? ⟨w.heap.size + 1, 1, none⟩ = some (.slice (some ⟨w.heap.size, 0, none⟩) 1 1) := (blk_cell HE.out.2.1 1).trans rfl
 have x2 : W7.cell? ⟨w.heap.size + 1, 2, none⟩ = some (.string ⟨#[120]⟩) := (blk_cell HE.out.2.1 2).trans rfl
 have y0 : W7.cell? ⟨w.heap.size + 1 + 1 + 1, 0, none⟩ = some (.int .i64 (-5)) := (blk_cell HE.out.2.2.2 0).trans rfl
 have y1 : W7.cell? ⟨w.heap.size + 1 + 1 + 1, 1, none⟩ = some (.slice (some ⟨w.heap.size + 1 + 1, 0, none⟩) 1 1) := (blk_cell HE.out.2.2.2 1).trans rfl
 have y2 : W7.cell? ⟨w.heap.size + 1 + 1 + 1, 2, none⟩ = some (.string ⟨#[121]⟩) := (blk_cell HE.out.2.2.2 2).trans rfl
 have z0 : W7.cell? ⟨gc, 0, none⟩ = some (.int .i64 p1) := (blk_cell HC.out 0).trans rfl
 have z1 : W7.cell? ⟨gc, 1, none⟩ = some (.slice Ap p2.length cp) := (blk_cell HC.out 1).trans rfl
 have z2 : W7.cell? ⟨gc, 2, none⟩ = some (.string p3) := (blk_cell HC.out 2).trans rfl
 go_wp2_with (first
  | (go_at_call 12; (with_reducible refine (KS.out _ HE.out _ _ HR.out HPc.out).mono ?_); rintro e w7 ⟨rfl, hb⟩; have n1_ := Aside0.mk (HE.out.below hb); have n2_ := Aside0.mk (below_step HB.out hb); have n3_ := Aside0.mk (blk_below HC.out hb); have n4_ := Aside0.mk (Kd.C_below HR.out hb); clear x0 x1 x2 y0 y1 y2; clear z0 z1 z2; clear HE HB HC HR hb; have HE := n1_; have HB := n2_; have HC := n3_; have HR := n4_; clear n1_ n2_ n3_ n4_; have x0 : w7.cell? ⟨w.heap.size + 1, 0, none⟩ = some (.int .i64 (-5)) := (blk_cell HE.out.2.1 0).trans rfl; have x1 : w7.cell? ⟨w.heap.size + 1, 1, none⟩ = some (.slice (some ⟨w.heap.size, 0, none⟩) 1 1) := (blk_cell HE.out.2.1 1).trans rfl; have x2 : w7.cell? ⟨w.heap.size + 1, 2, none⟩ = some (.string ⟨#[120]⟩) := (blk_cell HE.out.2.1 2).trans rfl; have y0 : w7.cell? ⟨w.heap.size + 1 + 1 + 1, 0, none⟩ = some (.int .i64 (-5)) := (blk_cell HE.out.2.2.2 0).trans rfl; have y1 : w7.cell? ⟨w.heap.size + 1 + 1 + 1, 1, none⟩ = some (.slice (some ⟨w.heap.size + 1 + 1, 0, none⟩) 1 1) := (blk_cell HE.out.2.2.2 1).trans rfl; have y2 : w7.cell? ⟨w.heap.size + 1 + 1 + 1, 2, none⟩ = some (.string ⟨#[121]⟩) := (blk_cell HE.out.2.2.2 2).trans rfl; have z0 : w7.cell? ⟨gc, 0, none⟩ = some (.int .i64 p1) := (blk_cell HC.out 0).trans rfl; have z1 : w7.cell? ⟨gc, 1, none⟩ = some (.slice Ap p2.length cp) := (blk_cell HC.out 1).trans rfl; have z2 : w7.cell? ⟨gc, 2, none⟩ = some (.string p3) := (blk_cell HC.out 2).trans rfl)
  | (go_at_call 13; (with_reducible refine (KO.out _ HE.out).mono ?_); rintro e w7 ⟨rfl, hb⟩; have n1_ := Aside0.mk (HE.out.below hb); have n2_ := Aside0.mk (below_step HB.out hb); have n3_ := Aside0.mk (blk_below HC.out hb); have n4_ := Aside0.mk (Kd.C_below HR.out hb); clear x0 x1 x2 y0 y1 y2; clear z0 z1 z2; clear HE HB HC HR hb; have HE := n1_; have HB := n2_; have HC := n3_; have HR := n4_; clear n1_ n2_ n3_ n4_; have x0 : w7.cell? ⟨w.heap.size + 1, 0, none⟩ = some (.int .i64 (-5)) := (blk_cell HE.out.2.1 0).trans rfl; have x1 : w7.cell? ⟨w.heap.size + 1, 1, none⟩ = some (.slice (some ⟨w.heap.size, 0, none⟩) 1 1) := (blk_cell HE.out.2.1 1).trans rfl; have x2 : w7.cell? ⟨w.heap.size + 1, 2, none⟩ = some (.string ⟨#[120]⟩) := (blk_cell HE.out.2.1 2).trans rfl; have y0 : w7.cell? ⟨w.heap.size + 1 + 1 + 1, 0, none⟩ = some (.int .i64 (-5)) := (blk_cell HE.out.2.2.2 0).trans rfl; have y1 : w7.cell? ⟨w.heap.size + 1 + 1 + 1, 1, none⟩ = some (.slice (some ⟨w.heap.size + 1 + 1, 0, none⟩) 1 1) := (blk_cell HE.out.2.2.2 1).trans rfl; have y2 : w7.cell? ⟨w.heap.size + 1 + 1 + 1, 2, none⟩ = some (.string ⟨#[121]⟩) := (blk_cell HE.out.2.2.2 2).trans rfl; have z0 : w7.cell? ⟨gc, 0, none⟩ = some (.int .i64 p1) := (blk_cell HC.out 0).trans rfl; have z1 : w7.cell? ⟨gc, 1, none⟩ = some (.slice Ap p2.length cp) := (blk_cell HC.out 1).trans rfl; have z2 : w7.cell? ⟨gc, 2, none⟩ = some (.string p3) := (blk_cell HC.out 2).trans rfl)
  | (go_at_call 14; (with_reducible refine (KA.out _ HE.out).mono ?_); rintro e w7 ⟨rfl, hb⟩; have n1_ := Aside0.mk (HE.out.below hb); have n2_ := Aside0.mk (below_step HB.out hb); have n3_ := Aside0.mk (blk_below HC.out hb); have n4_ := Aside0.mk (Kd.C_below HR.out hb); clear x0 x1 x2 y0 y1 y2; clear z0 z1 z2; clear HE HB HC HR hb; have HE := n1_; have HB := n2_; have HC := n3_; have HR := n4_; clear n1_ n2_ n3_ n4_; have x0 : w7.cell? ⟨w.heap.size + 1, 0, none⟩ = some (.int .i64 (-5)) := (blk_cell HE.out.2.1 0).trans rfl; have x1 : w7.cell? ⟨w.heap.size + 1, 1, none⟩ = some (.slice (some ⟨w.heap.size, 0, none⟩) 1 1) := (blk_cell HE.out.2.1 1).trans rfl; have x2 : w7.cell? ⟨w.heap.size + 1, 2, none⟩ = some (.string ⟨#[120]⟩) := (blk_cell HE.out.2.1 2).trans rfl; have y0 : w7.cell? ⟨w.heap.size + 1 + 1 + 1, 0, none⟩ = some (.int .i64 (-5)) := (blk_cell HE.out.2.2.2 0).trans rfl; have y1 : w7.cell? ⟨w.heap.size + 1 + 1 + 1, 1, none⟩ = some (.slice (some ⟨w.heap.size + 1 + 1, 0, none⟩) 1 1) := (blk_cell HE.out.2.2.2 1).trans rfl; have y2 : w7.cell? ⟨w.heap.size + 1 + 1 + 1, 2, none⟩ = some (.string ⟨#[121]⟩) := (blk_cell HE.out.2.2.2 2).trans rfl; have z0 : w7.cell? ⟨gc, 0, none⟩ = some (.int .i64 p1) := (blk_cell HC.out 0).trans rfl; have z1 : w7.cell? ⟨gc, 1, none⟩ = some (.slice Ap p2.length cp) := (blk_cell HC.out 1).trans rfl; have z2 : w7.cell? ⟨gc, 2, none⟩ = some (.string p3) := (blk_cell HC.out 2).trans rfl)
  | (go_at_call 14; (with_reducible refine (KB.out _ HE.out).mono ?_); rintro e w7 ⟨rfl, hb⟩; have n1_ := Aside0.mk (HE.out.below hb); have n2_ := Aside0.mk (below_step HB.out hb); have n3_ := Aside0.mk (blk_below HC.out hb); have n4_ := Aside0.mk (Kd.C_below HR.out hb); clear x0 x1 x2 y0 y1 y2; clear z0 z1 z2; clear HE HB HC HR hb; have HE := n1_; have HB := n2_; have HC := n3_; have HR := n4_; clear n1_ n2_ n3_ n4_; have x0 : w7.cell? ⟨w.heap.size + 1, 0, none⟩ = some (.int .i64 (-5)) := (blk_cell HE.out.2.1 0).trans rfl; have x1 : w7.cell? ⟨w.heap.size + 1, 1, none⟩ = some (.slice (some ⟨w.heap.size, 0, none⟩) 1 1) := (blk_cell HE.out.2.1 1).trans rfl; have x2 : w7.cell? ⟨w.heap.size + 1, 2, none⟩ = some (.string ⟨#[120]⟩) := (blk_cell HE.out.2.1 2).trans rfl; have y0 : w7.cell? ⟨w.heap.size + 1 + 1 + 1, 0, none⟩ = some (.int .i64 (-5)) := (blk_cell HE.out.2.2.2 0).trans rfl; have y1 : w7.cell? ⟨w.heap.size + 1 + 1 + 1, 1, none⟩ = some (.slice (some ⟨w.heap.size + 1 + 1, 0, none⟩) 1 1) := (blk_cell HE.out.2.2.2 1).trans rfl; have y2 : w7.cell? ⟨w.heap.size + 1 + 1 + 1, 2, none⟩ = some (.string ⟨#[121]⟩) := (blk_cell HE.out.2.2.2 2).trans rfl; have z0 : w7.cell? ⟨gc, 0, none⟩ = some (.int .i64 p1) := (blk_cell HC.out 0).trans rfl; have z1 : w7.cell? ⟨gc, 1, none⟩ = some (.slice Ap p2.length cp) := (blk_cell HC.out 1).trans rfl; have z2 : w7.cell? ⟨gc, 2, none⟩ = some (.string p3) := (blk_cell HC.out 2).trans rfl)
  | (go_at_call 11; (with_reducible refine (KR.out _ HE.out).mono ?_); rintro e w7 ⟨rfl, hb⟩; have n1_ := Aside0.mk (HE.out.below hb); have n2_ := Aside0.mk (below_step HB.out hb); have n3_ := Aside0.mk (blk_below HC.out hb); have n4_ := Aside0.mk (Kd.C_below HR.out hb); clear x0 x1 x2 y0 y1 y2; clear z0 z1 z2; clear HE HB HC HR hb; have HE := n1_; have HB := n2_; have HC := n3_; have HR := n4_; clear n1_ n2_ n3_ n4_; have x0 : w7.cell? ⟨w.heap.size + 1, 0, none⟩ = some (.int .i64 (-5)) := (blk_cell HE.out.2.1 0).trans rfl; have x1 : w7.cell? ⟨w.heap.size + 1, 1, none⟩ = some (.slice (some ⟨w.heap.size, 0, none⟩) 1 1) := (blk_cell HE.out.2.1 1).trans rfl; have x2 : w7.cell? ⟨w.heap.size + 1, 2, none⟩ = some (.string ⟨#[120]⟩) := (blk_cell HE.out.2.1 2).trans rfl; have y0 : w7.cell? ⟨w.heap.size + 1 + 1 + 1, 0, none⟩ = some (.int .i64 (-5)) := (blk_cell HE.out.2.2.2 0).trans rfl; have y1 : w7.cell? ⟨w.heap.size + 1 + 1 + 1, 1, none⟩ = some (.slice (some ⟨w.heap.size + 1 + 1, 0, none⟩) 1 1) := (blk_cell HE.out.2.2.2 1).trans rfl; have y2 : w7.cell? ⟨w.heap.size + 1 + 1 + 1, 2, none⟩ = some (.string ⟨#[121]⟩) := (blk_cell HE.out.2.2.2 2).trans rfl; have z0 : w7.cell? ⟨gc, 0, none⟩ = some (.int .i64 p1) := (blk_cell HC.out 0).trans rfl; have z1 : w7.cell? ⟨gc, 1, none⟩ = some (.slice Ap p2.length cp) := (blk_cell HC.out 1).trans rfl; have z2 : w7.cell? ⟨gc, 2, none⟩ = some (.string p3) := (blk_cell HC.out 2).trans rfl)
  | (go_at_call 16; (with_reducible refine (KT.out _ HE.out).mono ?_); rintro e w7 ⟨rfl, hb⟩; have n1_ := Aside0.mk (HE.out.below (below_step (below_alloc (Below.refl _ _) (.cells #[.int .i64 (-5), .slice (some ⟨w.heap.size, 0, none⟩) 1 1, .string ⟨#[120]⟩, .int .i64 (-5), .slice (some ⟨w.heap.size, 0, none⟩) 1 1, .string ⟨#[120]⟩, .int .i64 (-5), .slice (some ⟨w.heap.size + 1 + 1, 0, none⟩) 1 1, .string ⟨#[121]⟩] 25)) hb)); have n2_ := Aside0.mk (below_step (below_alloc HB.out (.cells #[.int .i64 (-5), .slice (some ⟨w.heap.size, 0, none⟩) 1 1, .string ⟨#[120]⟩, .int .i64 (-5), .slice (some ⟨w.heap.size, 0, none⟩) 1 1, .string ⟨#[120]⟩, .int .i64 (-5), .slice (some ⟨w.heap.size + 1 + 1, 0, none⟩) 1 1, .string ⟨#[121]⟩] 25)) hb); have n3_ := Aside0.mk (blk_below HC.out (below_step (below_alloc (Below.refl _ _) (.cells #[.int .i64 (-5), .slice (some ⟨w.heap.size, 0, none⟩) 1 1, .string ⟨#[120]⟩, .int .i64 (-5), .slice (some ⟨w.heap.size, 0, none⟩) 1 1, .string ⟨#[120]⟩, .int .i64 (-5), .slice (some ⟨w.heap.size + 1 + 1, 0, none⟩) 1 1, .string ⟨#[121]⟩] 25)) hb)); have n4_ := Aside0.mk (Kd.C_below HR.out (below_step (below_alloc (Below.refl _ _) (.cells #[.int .i64 (-5), .slice (some ⟨w.heap.size, 0, none⟩) 1 1, .string ⟨#[120]⟩, .int .i64 (-5), .slice (some ⟨w.heap.size, 0, none⟩) 1 1, .string ⟨#[120]⟩, .int .i64 (-5), .slice (some ⟨w.heap.size + 1 + 1, 0, none⟩) 1 1, .string ⟨#[121]⟩] 25)) hb)); clear x0 x1 x2 y0 y1 y2; clear z0 z1 z2; clear HE HB HC HR hb; have HE := n1_; have HB := n2_; have HC := n3_; have HR := n4_; clear n1_ n2_ n3_ n4_; have x0 : w7.cell? ⟨w.heap.size + 1, 0, none⟩ = some (.int .i64 (-5)) := (blk_cell HE.out.2.1 0).trans rfl; have x1 : w7.cell? ⟨w.heap.size + 1, 1, none⟩ = some (.slice (some ⟨w.heap.size, 0, none⟩) 1 1) := (blk_cell HE.out.2.1 1).trans rfl; have x2 : w7.cell? ⟨w.heap.size + 1, 2, none⟩ = some (.string ⟨#[120]⟩) := (blk_cell HE.out.2.1 2).trans rfl; have y0 : w7.cell? ⟨w.heap.size + 1 + 1 + 1, 0, none⟩ = some (.int .i64 (-5)) := (blk_cell HE.out.2.2.2 0).trans rfl; have y1 : w7.cell? ⟨w.heap.size + 1 + 1 + 1, 1, none⟩ = some (.slice (some ⟨w.heap.size + 1 + 1, 0, none⟩) 1 1) := (blk_cell HE.out.2.2.2 1).trans rfl; have y2 : w7.cell? ⟨w.heap.size + 1 + 1 + 1, 2, none⟩ = some (.string ⟨#[121]⟩) := (blk_cell HE.out.2.2.2 2).trans rfl; have z0 : w7.cell? ⟨gc, 0, none⟩ = some (.int .i64 p1) := (blk_cell HC.out 0).trans rfl; have z1 : w7.cell? ⟨gc, 1, none⟩ = some (.slice Ap p2.length cp) := (blk_cell HC.out 1).trans rfl; have z2 : w7.cell? ⟨gc, 2, none⟩ = some (.string p3) := (blk_cell HC.out 2).trans rfl)
  | (go_at_call 16; (with_reducible refine (KU.out _ HE.out).mono ?_); rintro e w7 ⟨rfl, hb⟩; have n1_ := Aside0.mk (HE.out.below (below_step (below_alloc (Below.refl _ _) (.cells #[.int .i64 (-5), .slice (some ⟨w.heap.size, 0, none⟩) 1 1, .string ⟨#[120]⟩, .int .i64 (-5), .slice (some ⟨w.heap.size + 1 + 1, 0, none⟩) 1 1, .string ⟨#[121]⟩] 25)) hb)); have n2_ := Aside0.mk (below_step (below_alloc HB.out (.cells #[.int .i64 (-5), .slice (some ⟨w.heap.size, 0, none⟩) 1 1, .string ⟨#[120]⟩, .int .i64 (-5), .slice (some ⟨w.heap.size + 1 + 1, 0, none⟩) 1 1, .string ⟨#[121]⟩] 25)) hb); have n3_ := Aside0.mk (blk_below HC.out (below_step (below_alloc (Below.refl _ _) (.cells #[.int .i64 (-5), .slice (some ⟨w.heap.size, 0, none⟩) 1 1, .string ⟨#[120]⟩, .int .i64 (-5), .slice (some ⟨w.heap.size + 1 + 1, 0, none⟩) 1 1, .string ⟨#[121]⟩] 25)) hb)); have n4_ := Aside0.mk (Kd.C_below HR.out (below_step (below_alloc (Below.refl _ _) (.cells #[.int .i64 (-5), .slice (some ⟨w.heap.size, 0, none⟩) 1 1, .string ⟨#[120]⟩, .int .i64 (-5), .slice (some ⟨w.heap.size + 1 + 1, 0, none⟩) 1 1, .string ⟨#[121]⟩] 25)) hb)); clear x0 x1 x2 y0 y1 y2; clear z0 z1 z2; clear HE HB HC HR hb; have HE := n1_; have HB := n2_; have HC := n3_; have HR := n4_; clear n1_ n2_ n3_ n4_; have x0 : w7.cell? ⟨w.heap.size + 1, 0, none⟩ = some (.int .i64 (-5)) := (blk_cell HE.out.2.1 0).trans rfl; have x1 : w7.cell? ⟨w.heap.size + 1, 1, none⟩ = some (.slice (some ⟨w.heap.size, 0, none⟩) 1 1) := (blk_cell HE.out.2.1 1).trans rfl; have x2 : w7.cell? ⟨w.heap.size + 1, 2, none⟩ = some (.string ⟨#[120]⟩) := (blk_cell HE.out.2.1 2).trans rfl; have y0 : w7.cell? ⟨w.heap.size + 1 + 1 + 1, 0, none⟩ = some (.int .i64 (-5)) := (blk_cell HE.out.2.2.2 0).trans rfl; have y1 : w7.cell? ⟨w.heap.size + 1 + 1 + 1, 1, none⟩ = some (.slice (some ⟨w.heap.size + 1 + 1, 0, none⟩) 1 1) := (blk_cell HE.out.2.2.2 1).trans rfl; have y2 : w7.cell? ⟨w.heap.size + 1 + 1 + 1, 2, none⟩ = some (.string ⟨#[121]⟩) := (blk_cell HE.out.2.2.2 2).trans rfl; have z0 : w7.cell? ⟨gc, 0, none⟩ = some (.int .i64 p1) := (blk_cell HC.out 0).trans rfl; have z1 : w7.cell? ⟨gc, 1, none⟩ = some (.slice Ap p2.length cp) := (blk_cell HC.out 1).trans rfl; have z2 : w7.cell? ⟨gc, 2, none⟩ = some (.string p3) := (blk_cell HC.out 2).trans rfl)
  | (go_at_call 17; (with_reducible refine (KC.out _ HE.out).mono ?_); rintro e w7 ⟨rfl, hb⟩; have n1_ := Aside0.mk (HE.out.below hb); have n2_ := Aside0.mk (below_step HB.out hb); have n3_ := Aside0.mk (blk_below HC.out hb); have n4_ := Aside0.mk (Kd.C_below HR.out hb); clear x0 x1 x2 y0 y1 y2; clear z0 z1 z2; clear HE HB HC HR hb; have HE := n1_; have HB := n2_; have HC := n3_; have HR := n4_; clear n1_ n2_ n3_ n4_; have x0 : w7.cell? ⟨w.heap.size + 1, 0, none⟩ = some (.int .i64 (-5)) := (blk_cell HE.out.2.1 0).trans rfl; have x1 : w7.cell? ⟨w.heap.size + 1, 1, none⟩ = some (.slice (some ⟨w.heap.size, 0, none⟩) 1 1) := (blk_cell HE.out.2.1 1).trans rfl; have x2 : w7.cell? ⟨w.heap.size + 1, 2, none⟩ = some (.string ⟨#[120]⟩) := (blk_cell HE.out.2.1 2).trans rfl; have y0 : w7.cell? ⟨w.heap.size + 1 + 1 + 1, 0, none⟩ = some (.int .i64 (-5)) := (blk_cell HE.out.2.2.2 0).trans rfl; have y1 : w7.cell? ⟨w.heap.size + 1 + 1 + 1, 1, none⟩ = some (.slice (some ⟨w.heap.size + 1 + 1, 0, none⟩) 1 1) := (blk_cell HE.out.2.2.2 1).trans rfl; have y2 : w7.cell? ⟨w.heap.size + 1 + 1 + 1, 2, none⟩ = some (.string ⟨#[121]⟩) := (blk_cell HE.out.2.2.2 2).trans rfl; have z0 : w7.cell? ⟨gc, 0, none⟩ = some (.int .i64 p1) := (blk_cell HC.out 0).trans rfl; have z1 : w7.cell? ⟨gc, 1, none⟩ = some (.slice Ap p2.length cp) := (blk_cell HC.out 1).trans rfl; have z2 : w7.cell? ⟨gc, 2, none⟩ = some (.string p3) := (blk_cell HC.out 2).trans rfl))
 go_ret
 exact ⟨rfl, HB.out⟩

/-! ### archivistlaw13_Tag_tag: function 34 -/
def archivistlaw13_Tag_tag.f (a0_0 : ByteArray) (a0_1 : ByteArray) (a0_2 : Bool) (a0_3 : Int) : Option (ByteArray × ByteArray) := if a0_2 = true then ((some (([(⟨#[97, 112, 112]⟩ : ByteArray), (⟨#[101, 110, 118]⟩ : ByteArray), (⟨#[108, 118, 108]⟩ : ByteArray), (⟨#[100, 117, 114]⟩ : ByteArray), (⟨#[110]⟩ : ByteArray)] : List ByteArray) : List ByteArray)).bind fun y260 => (if 0 ≤ (Int.tmod a0_3 5) then (if (Int.tmod a0_3 5) < (y260.length : Int) then ((some (([(⟨#[97]⟩ : ByteArray), (⟨#[98]⟩ : ByteArray), (⟨#[120, 49]⟩ : ByteArray), (⟨#[53, 109]⟩ : ByteArray), (⟨#[55]⟩ : ByteArray), (⟨#[]⟩ : ByteArray), (⟨#[50, 75, 66]⟩ : ByteArray), (⟨#[97, 98]⟩ : ByteArray)] : List ByteArray) : List ByteArray)).bind fun y264 => (if 0 ≤ (((Int.tdiv a0_3 5) % 256) % 8) then (if (((Int.tdiv a0_3 5) % 256) % 8) < (y264.length : Int) then (some (rdOf ByteArray.empty y260 (Int.tmod a0_3 5), rdOf ByteArray.empty y264 (((Int.tdiv a0_3 5) % 256) % 8))) else (none)) else (none))) else (none)) else (none))) else (some (a0_0, a0_1))
def archivistlaw13_Tag_tag.T3 : Bool × List (List Nat × List Nat) := (true, [([], []), ([], []), ([1], [1]), ([2], [2]), ([0, 3], [0, 3]), ([4], [4]), ([], []), ([], []), ([7], [7]), ([8], [8]), ([9], [9]), ([6, 10], [6, 10]), ([11], [11]), ([5, 12], [5, 12]), ([13, 0, 1, 2, 3, 4, 5, 6, 7, 8, 9, 10, 11, 12, 13], [13])])
def archivistlaw13_Tag_tag.B3 : List Nat := [0, 0, 2, 6, 15, 31, 0, 0, 128, 384, 896, 1984, 4032, 8191, 16383]
theorem archivistlaw13_Tag_tag.tab3 : rtab .any (opsOf Tryd.f34 3) = archivistlaw13_Tag_tag.T3 := by kernel_rfl
theorem archivistlaw13_Tag_tag.bits3 : waitsOk archivistlaw13_Tag_tag.T3.2 archivistlaw13_Tag_tag.B3 = true := by kernel_rfl
set_option maxHeartbeats 8000000 in
set_option maxRecDepth 100000 in
theorem archivistlaw13_Tag_tag.calls (a0_0 : ByteArray) (a0_1 : ByteArray) (a0_2 : Bool) (a0_3 : Int) (r1 : ByteArray) (r2 : ByteArray) (w : World) (h : archivistlaw13_Tag_tag.f a0_0 a0_1 a0_2 a0_3 = some (r1, r2)) :
  Calls Tryd.prog 34 #[.agg #[.string a0_0, .string a0_1, .bool a0_2, .int .u8 a0_3]] w fun e w' => e = .returned (.agg #[.string r1, .string r2]) ∧ Below w.heap.size w w' := by
 have hu71 := Tryd.underlying71
 have hu48 := Tryd.underlying48
 have HB := Aside0.mk (Below.refl w.heap.size w)
 have H : (if a0_2 = true then ((some (([(⟨#[97, 112, 112]⟩ : ByteArray), (⟨#[101, 110, 118]⟩ : ByteArray), (⟨#[108, 118, 108]⟩ : ByteArray), (⟨#[100, 117, 114]⟩ : ByteArray), (⟨#[110]⟩ : ByteArray)] : List ByteArray) : List ByteArray)).bind fun y260 => (if 0 ≤ (Int.tmod a0_3 5) then (if (Int.tmod a0_3 5) < (y260.length : Int) then ((some (([(⟨#[97]⟩ : ByteArray), (⟨#[98]⟩ : ByteArray), (⟨#[120, 49]⟩ : ByteArray), (⟨#[53, 109]⟩ : ByteArray), (⟨#[55]⟩ : ByteArray), (⟨#[]⟩ : ByteArray), (⟨#[50, 75, 66]⟩ : ByteArray), (⟨#[97, 98]⟩ : ByteArray)] : List ByteArray) : List ByteArray)).bind fun y264 => (if 0 ≤ (((Int.tdiv a0_3 5) % 256) % 8) then (if (((Int.tdiv a0_3 5) % 256) % 8) < (y264.length : Int) then (some (rdOf ByteArray.empty y260 (Int.tmod a0_3 5), rdOf ByteArray.empty y264 (((Int.tdiv a0_3 5) % 256) % 8))) else (none)) else (none))) else (none)) else (none))) else (some (a0_0, a0_1))) = some (r1, r2) := h
 clear h
 by_cases c2 : a0_2 = true
 ·subst c2
  have H1 : ((some (([(⟨#[97, 112, 112]⟩ : ByteArray), (⟨#[101, 110, 118]⟩ : ByteArray), (⟨#[108, 118, 108]⟩ : ByteArray), (⟨#[100, 117, 114]⟩ : ByteArray), (⟨#[110]⟩ : ByteArray)] : List ByteArray) : List ByteArray)).bind fun y260 => (if 0 ≤ (Int.tmod a0_3 5) then (if (Int.tmod a0_3 5) < (y260.length : Int) then ((some (([(⟨#[97]⟩ : ByteArray), (⟨#[98]⟩ : ByteArray), (⟨#[120, 49]⟩ : ByteArray), (⟨#[53, 109]⟩ : ByteArray), (⟨#[55]⟩ : ByteArray), (⟨#[]⟩ : ByteArray), (⟨#[50, 75, 66]⟩ : ByteArray), (⟨#[97, 98]⟩ : ByteArray)] : List ByteArray) : List ByteArray)).bind fun y264 => (if 0 ≤ (((Int.tdiv a0_3 5) % 256) % 8) then (if (((Int.tdiv a0_3 5) % 256) % 8) < (y264.length : Int) then (some (rdOf ByteArray.empty y260 (Int.tmod a0_3 5), rdOf ByteArray.empty y264 (((Int.tdiv a0_3 5) % 256) % 8))) else (none)) else (none))) else (none)) else (none))) = some (r1, r2) := by rw [if_pos rfl] at H; exact H
  clear H
  have H := H1
  clear H1
  obtain ⟨y260, hy260⟩ : ∃ y_ : List ByteArray, y_ = (([(⟨#[97, 112, 112]⟩ : ByteArray), (⟨#[101, 110, 118]⟩ : ByteArray), (⟨#[108, 118, 108]⟩ : ByteArray), (⟨#[100, 117, 114]⟩ : ByteArray), (⟨#[110]⟩ : ByteArray)] : List ByteArray)) := ⟨_, rfl⟩
  replace H : (if 0 ≤ (Int.tmod a0_3 5) then (if (Int.tmod a0_3 5) < (y260.length : Int) then ((some (([(⟨#[97]⟩ : ByteArray), (⟨#[98]⟩ : ByteArray), (⟨#[120, 49]⟩ : ByteArray), (⟨#[53, 109]⟩ : ByteArray), (⟨#[55]⟩ : ByteArray), (⟨#[]⟩ : ByteArray), (⟨#[50, 75, 66]⟩ : ByteArray), (⟨#[97, 98]⟩ : ByteArray)] : List ByteArray) : List ByteArray)).bind fun y264 => (if 0 ≤ (((Int.tdiv a0_3 5) % 256) % 8) then (if (((Int.tdiv a0_3 5) % 256) % 8) < (y264.length : Int) then (some (rdOf ByteArray.empty y260 (Int.tmod a0_3 5), rdOf ByteArray.empty y264 (((Int.tdiv a0_3 5) % 256) % 8))) else (none)) else (none))) else (none)) else (none)) = some (r1, r2) := by first | (rw [hy260]; with_reducible exact H) | (have H2_ := (Option.bind_some _ _).symm.trans H; rw [hy260]; with_reducible exact H2_) | (have H2_ := (Option.bind_some _ _).symm.trans H; with_reducible exact H2_) | with_reducible exact H | (rw [hy260]; exact H) | exact H
  have Ny260 := Aside0.mk hy260
  clear hy260
  obtain ⟨ji3, hji3⟩ : ∃ j_ : Int, (Int.tmod a0_3 5) = j_ := ⟨_, rfl⟩
  replace H : (if 0 ≤ (ji3) then (if (ji3) < (y260.length : Int) then ((some (([(⟨#[97]⟩ : ByteArray), (⟨#[98]⟩ : ByteArray), (⟨#[120, 49]⟩ : ByteArray), (⟨#[53, 109]⟩ : ByteArray), (⟨#[55]⟩ : ByteArray), (⟨#[]⟩ : ByteArray), (⟨#[50, 75, 66]⟩ : ByteArray), (⟨#[97, 98]⟩ : ByteArray)] : List ByteArray) : List ByteArray)).bind fun y264 => (if 0 ≤ (((Int.tdiv a0_3 5) % 256) % 8) then (if (((Int.tdiv a0_3 5) % 256) % 8) < (y264.length : Int) then (some (rdOf ByteArray.empty y260 (ji3), rdOf ByteArray.empty y264 (((Int.tdiv a0_3 5) % 256) % 8))) else (none)) else (none))) else (none)) else (none)) = some (r1, r2) := by first | (rw [hji3] at H; exact H) | (simp only [hji3] at H ⊢; exact H)
  by_cases c4 : 0 ≤ (ji3)
  ·rw [if_pos c4] at H
   have c4b0 := decide_eq_true c4
   clear c4
   by_cases c5 : (ji3) < (y260.length : Int)
   ·rw [if_pos c5] at H
    have c5b0 := decide_eq_true c5
    clear c5
    obtain ⟨y264, hy264⟩ : ∃ y_ : List ByteArray, y_ = (([(⟨#[97]⟩ : ByteArray), (⟨#[98]⟩ : ByteArray), (⟨#[120, 49]⟩ : ByteArray), (⟨#[53, 109]⟩ : ByteArray), (⟨#[55]⟩ : ByteArray), (⟨#[]⟩ : ByteArray), (⟨#[50, 75, 66]⟩ : ByteArray), (⟨#[97, 98]⟩ : ByteArray)] : List ByteArray)) := ⟨_, rfl⟩
    replace H : (if 0 ≤ (((Int.tdiv a0_3 5) % 256) % 8) then (if (((Int.tdiv a0_3 5) % 256) % 8) < (y264.length : Int) then (some (rdOf ByteArray.empty y260 (ji3), rdOf ByteArray.empty y264 (((Int.tdiv a0_3 5) % 256) % 8))) else (none)) else (none)) = some (r1, r2) := by first | (rw [hy264]; with_reducible exact H) | (have H2_ := (Option.bind_some _ _).symm.trans H; rw [hy264]; with_reducible exact H2_) | (have H2_ := (Option.bind_some _ _).symm.trans H; with_reducible exact H2_) | with_reducible exact H | (rw [hy264]; exact H) | exact H
    have Ny264 := Aside0.mk hy264
    clear hy264
    obtain ⟨ji6, hji6⟩ : ∃ j_ : Int, (((Int.tdiv a0_3 5) % 256) % 8) = j_ := ⟨_, rfl⟩
    have hw_hji6 : Int.tmod ((Int.tdiv a0_3 5) % 256) 8 = ji6 := by rw [← hji6]; exact Int.tmod_eq_emod_of_nonneg (Int.emod_nonneg _ (by decide))
    replace H : (if 0 ≤ (ji6) then (if (ji6) < (y264.length : Int) then (some (rdOf ByteArray.empty y260 (ji3), rdOf ByteArray.empty y264 (ji6))) else (none)) else (none)) = some (r1, r2) := by first | (rw [hji6] at H; exact H) | (simp only [hji6] at H ⊢; exact H)
    by_cases c7 : 0 ≤ (ji6)
    ·rw [if_pos c7] at H
     have c7b0 := decide_eq_true c7
     clear c7
     by_cases c8 : (ji6) < (y264.length : Int)
     ·rw [if_pos c8] at H
      have c8b0 := decide_eq_true c8
      clear c8
      simp only [Option.some.injEq, Prod.mk.injEq] at H
      obtain ⟨rfl, rfl⟩ := H
      go_enter Tryd.func34, Tryd.ntmps34
      try go_wp2_with (first | ((with_reducible refine gate_dst (N := 1) rfl ?_); refine box_event ?hg (N := 1) ?hd (cs := #[.string a0_0, .string a0_1, .bool true, .int .u8 a0_3]) (t := 71) ?hr ?_; (case hd => rfl); (case hg => rfl); (case hr => first | (go_simp; done) | (go_simp; rfl)); intro gb258 hg w9 hbox hb; have n0_ := Aside0.mk (below_step bl hb); have n1_ := Aside0.mk (hbox); have n2_ := Aside0.mk ((by rw [hg]; exact (below_size bl) : w.heap.size ≤ gb258)); have n3_ := Aside0.mk ((by rw [hg]; exact (below_size bl) : w.heap.size ≤ gb258)); clear HB; have HB := n0_; have BK258 := n1_; have GW258 := n2_; have GE258 := n3_; clear n0_ n1_ n2_ n3_; clear hb hbox hg) | ((with_reducible refine gate_dst (N := 2) rfl ?_); refine box_event ?hg (N := 2) ?hd (cs := #[.string (⟨#[]⟩ : ByteArray), .string (⟨#[]⟩ : ByteArray)]) (t := 48) ?hr ?_; (case hd => rfl); (case hg => rfl); (case hr => first | (go_simp; done) | (go_simp; rfl)); intro gb259 hg w10 hbox hb; have n0_ := Aside0.mk (blk_below (g := gb258) (o := .cells #[.string a0_0, .string a0_1, .bool true, .int .u8 a0_3] 71 (0, 0)) (bz BK258.out) hb); have n1_ := Aside0.mk (below_step (by repeat (first | (with_reducible first | exact HB.out | apply below_alloc | apply pw_below_drewN | apply below_drew1 | refine below_set ?_ GE258.out) | exact HB.out)) hb); have n2_ := Aside0.mk (hbox); have n3_ := Aside0.mk ((by rw [hg]; exact (below_size (by repeat (first | (with_reducible first | exact HB.out | apply below_alloc | apply pw_below_drewN | apply below_drew1 | refine below_set ?_ GE258.out) | exact HB.out))) : w.heap.size ≤ gb259)); have n4_ := Aside0.mk ((by rw [hg]; exact (below_size (by repeat (first | (with_reducible first | exact HB.out | apply below_alloc | apply pw_below_drewN | apply below_drew1 | refine below_set ?_ GE258.out) | exact HB.out))) : w.heap.size ≤ gb259)); have n5_ := Aside0.mk ((by rw [hg]; exact Nat.ne_of_lt (blk_lt (g := gb258) (o := .cells #[.string a0_0, .string a0_1, .bool true, .int .u8 a0_3] 71 (0, 0)) (bz BK258.out)) : gb258 ≠ gb259)); have n6_ := Aside0.mk ((by rw [hg]; exact Nat.ne_of_gt (blk_lt (g := gb258) (o := .cells #[.string a0_0, .string a0_1, .bool true, .int .u8 a0_3] 71 (0, 0)) (bz BK258.out)) : gb259 ≠ gb258)); clear BK258; clear HB; have BK258 := n0_; have HB := n1_; have BK259 := n2_; have GW259 := n3_; have GE259 := n4_; have NB258_259 := n5_; have NB259_258 := n6_; clear n0_ n1_ n2_ n3_ n4_ n5_ n6_; clear hb hbox hg; have hnb11 := NB258_259.out; have hnc11 := NB259_258.out; have hcz12_0 : w10.cell? ⟨gb258, 0, none⟩ = some (.string a0_0) := (blk_cell BK258.out 0).trans rfl; have hcz12_1 : w10.cell? ⟨gb258, 1, none⟩ = some (.string a0_1) := (blk_cell BK258.out 1).trans rfl; have hcz12_2 : w10.cell? ⟨gb258, 2, none⟩ = some (.bool true) := (blk_cell BK258.out 2).trans rfl; have hcz12_3 : w10.cell? ⟨gb258, 3, none⟩ = some (.int .u8 a0_3) := (blk_cell BK258.out 3).trans rfl; have hfz12_0 := blk_frozen BK258.out 0; have hfz12_1 := blk_frozen BK258.out 1; have hfz12_2 := blk_frozen BK258.out 2; have hfz12_3 := blk_frozen BK258.out 3))
      have pi263 : (0 ≤ ((ji3) : Int)) = True := eq_true (od)
      have qi263 : ((ji3) < (y260.length : Int)) = True := eq_true (od)
      have pi267 : (0 ≤ ((ji6) : Int)) = True := eq_true (od)
      have qi267 : ((ji6) < (y264.length : Int)) = True := eq_true (od)
      have n0_ := Aside0.mk (blk_drew BK258.out)
      have n1_ := Aside0.mk (blk_drew BK259.out)
      have n2_ := Aside0.mk (below_drew1 HB.out)
      clear BK258
      clear BK259
      clear HB
      have BK258 := n0_
      have BK259 := n1_
      have HB := n2_
      clear n0_ n1_ n2_
      refine start_ (n := 15) (S := fun w' => True) (ds := []) #[N_,N_,N_,N_,N_,N_,N_,N_,N_,N_,N_,N_,N_,N_,N_] (by kernel_rfl) rfl rfl trivial (fun hHeld => ?_); refine with_tabW archivistlaw13_Tag_tag.tab3 archivistlaw13_Tag_tag.bits3 (fun HT_ HW_ => ?_)
      generalize w10.drew = w13 at BK258 BK259 HB hHeld ⊢
      refine pY 1 9 #[N_,J_,N_,N_,N_,N_,N_,N_,N_,N_,N_,N_,N_,N_,N_] HT_.out ?_
      refine pY 7 15 #[N_,J_,N_,N_,N_,N_,N_,J_,N_,N_,N_,N_,N_,N_,N_] HT_.out ?_
      refine inv_at [0, 2, 3, 4, 5, 6, 8, 9, 10, 11, 12, 13, 14] (fun a0_ b a w' => ∃ (v261 : Value) (adz_v261 : Addr) (v265 : Value) (adz_v265 : Addr) (m4_ : Value) (m11_ : Value), a = putSel a0_ b [(0, 8, v261), (2, 10, .int .u8 a0_3), (3, 11, .int .u8 ji3), (4, 12, m4_), (5, 13, .string (rdOf ByteArray.empty y260 (ji3))), (6, 14, v265), (8, 16, .int .u8 a0_3), (9, 17, .int .u8 ((Int.tdiv a0_3 5) % 256)), (10, 18, .int .u8 ji6), (11, 19, m11_), (12, 20, .string (rdOf ByteArray.empty y264 (ji6))), (13, 21, .agg #[.string (rdOf ByteArray.empty y260 (ji3)), .string (rdOf ByteArray.empty y264 (ji6))])] ∧ (w'.heap[gb258]? = some (.cells #[.string a0_0, .string a0_1, .bool true, .int .u8 a0_3] 71 (0, 0))) ∧ (b 14 = false → w'.heap[gb259]? = some (.cells #[.string (⟨#[]⟩ : ByteArray), .string (⟨#[]⟩ : ByteArray)] 48 (0, 0))) ∧ (Below w.heap.size w w') ∧ (b 0 = true → Kd.R Kd.string 9 w' w.heap.size (fun _ => True) v261 y260) ∧ (b 0 = true → ∃ c_, (v261 : Value) = .slice (some adz_v261) y260.length c_) ∧ (b 6 = true → Kd.R Kd.string 9 w' w.heap.size (fun _ => True) v265 y264) ∧ (b 6 = true → ∃ c_, (v265 : Value) = .slice (some adz_v265) y264.length c_) ∧ (b 14 = true → w'.heap[gb259]? = some (.cells #[.string (rdOf ByteArray.empty y260 (ji3)), .string (rdOf ByteArray.empty y264 (ji6))] 48 (0, 0))) ∧ (b 4 = true → (m4_ : Value) = .pointer (some (adz_v261.add ((ji3)).toNat))) ∧ (b 11 = true → (m11_ : Value) = .pointer (some (adz_v265.add ((ji6)).toNat)))) HT_.out HW_.out (by kernel_rfl) (by kernel_rfl) ?_ ?_ ?_
      ·exact ⟨.bool false, ⟨0, 0, none⟩, .bool false, ⟨0, 0, none⟩, .bool false, .bool false, by simp only [putSel, Bool.false_eq_true, if_false], BK258.out, fun _ => BK259.out, HB.out, fun h_ => absurd h_ (by decide), fun h_ => absurd h_ (by decide), fun h_ => absurd h_ (by decide), fun h_ => absurd h_ (by decide), fun h_ => absurd h_ (by decide), fun h_ => absurd h_ (by decide), fun h_ => absurd h_ (by decide)⟩
      ·skip
       clear BK258 BK259 HB
       refine steps_cons ?_ ?_
       ·rintro b a w' ⟨v261, adz_v261, v265, adz_v265, m4_, m11_, ha, Q_BK258, Q_BK259, Q_HB, Q_HO262, Q_HA_HO262, Q_HO266, Q_HA_HO266, Q_BK259_e14, Q_X4_, Q_X11_⟩ hb_ hon hoff
        refine ⟨_, rfl, fun K hK => ?_⟩
        replace ha := Aside0.mk ha
        have BK258 := Aside0.mk Q_BK258
        have BK259 := Aside0.mk (Q_BK259 (hoff 14 (by kernel_rfl)))
        have HB := Aside0.mk Q_HB
        refine Kd.R_lit_step Kd.string _ 9 ?hg (N := 8) ?hd (xs := ([(⟨#[97, 112, 112]⟩ : ByteArray), (⟨#[101, 110, 118]⟩ : ByteArray), (⟨#[108, 118, 108]⟩ : ByteArray), (⟨#[100, 117, 114]⟩ : ByteArray), (⟨#[110]⟩ : ByteArray)] : List ByteArray)) (inner := [.string (⟨#[97, 112, 112]⟩ : ByteArray), .string (⟨#[101, 110, 118]⟩ : ByteArray), .string (⟨#[108, 118, 108]⟩ : ByteArray), .string (⟨#[100, 117, 114]⟩ : ByteArray), .string (⟨#[110]⟩ : ByteArray)]) (ok := fun _ => True) (okp := fun _ => True) ?hr ?hp (fun _ hk => hk) trivial (Below.refl _ _) (Nat.le_refl _) (by simp) ?_; (case hd => rfl); (case hg => rfl); (case hr => first | (go_simp; done) | (go_simp; rfl)); (case hp => exact (Reps.one (show Kd.M Kd.string _ _ _ (⟨#[97, 112, 112]⟩ : ByteArray) [.string (⟨#[97, 112, 112]⟩ : ByteArray)] from rfl) (Reps.one (show Kd.M Kd.string _ _ _ (⟨#[101, 110, 118]⟩ : ByteArray) [.string (⟨#[101, 110, 118]⟩ : ByteArray)] from rfl) (Reps.one (show Kd.M Kd.string _ _ _ (⟨#[108, 118, 108]⟩ : ByteArray) [.string (⟨#[108, 118, 108]⟩ : ByteArray)] from rfl) (Reps.one (show Kd.M Kd.string _ _ _ (⟨#[100, 117, 114]⟩ : ByteArray) [.string (⟨#[100, 117, 114]⟩ : ByteArray)] from rfl) (Reps.one (show Kd.M Kd.string _ _ _ (⟨#[110]⟩ : ByteArray) [.string (⟨#[110]⟩ : ByteArray)] from rfl) (Reps.none _ _)))))))
        intro v261 w14 ho15 hb hg_ hnew_
        clear hg_ hnew_
        (first | rw [← Ny260.out] at ho15 | (simp only [Int.reduceToNat] at ho15; rw [← Ny260.out] at ho15))
        have n0_ := Aside0.mk (Kd.R_lower ho15 (below_size (by repeat (first | (with_reducible first | exact HB.out | apply below_alloc | apply pw_below_drewN | apply below_drew1 | refine below_set ?_ GE258.out | refine below_set ?_ GE259.out) | exact HB.out))))
        have n1_ := Aside0.mk (blk_below (g := gb258) (o := .cells #[.string a0_0, .string a0_1, .bool true, .int .u8 a0_3] 71 (0, 0)) (bz BK258.out) hb)
        have n2_ := Aside0.mk (blk_below (g := gb259) (o := .cells #[.string (⟨#[]⟩ : ByteArray), .string (⟨#[]⟩ : ByteArray)] 48 (0, 0)) (bz BK259.out) hb)
        have n3_ := Aside0.mk (below_step (by repeat (first | (with_reducible first | exact HB.out | apply below_alloc | apply pw_below_drewN | apply below_drew1 | refine below_set ?_ GE258.out | refine below_set ?_ GE259.out) | exact HB.out)) hb)
        have z_HO266 := fun (h0_ : b 6 = true) => (show Kd.R Kd.string 9 w14 w.heap.size (fun _ => True) v265 y264 from by first | exact (Kd.R_elder' (by (with_reducible repeat (first | apply Kd.R_alloc | apply Kd.R_drewN | apply Kd.R_drew)); exact (Q_HO266 h0_)) (Kd.R_base ho15) hb) | exact Kd.R_mono (Kd.R_elder' (by (with_reducible repeat (first | apply Kd.R_alloc | apply Kd.R_drewN | apply Kd.R_drew)); exact (Q_HO266 h0_)) (Kd.R_base ho15) hb) (fun _ h_ => by first | trivial | exact h_ | exact h_.1))
        clear BK258
        clear BK259
        clear HB
        have HO262 := n0_
        have BK258 := n1_
        have BK259 := n2_
        have HB := n3_
        clear n0_ n1_ n2_ n3_
        clear hb ho15
        obtain ⟨Ao16, co16, eo16⟩ := Kd.R_slice HO262.out
        subst eo16
        obtain ⟨ado16, fo16, _⟩ := Kd.at_string (Kd.R_reads' HO262.out).2.2 0 (by decide) (by rw [Ny260.out]; simp)
        cases fo16
        refine hK.out _ _ ⟨.slice (some ado16) y260.length co16, ado16, v265, adz_v265, m4_, m11_, (by rw [ha.out]; exact putSel_upk 0 hb_ rfl rfl rfl), (bz BK258.out), fun _ => (bz BK259.out), (by repeat (first | (with_reducible first | exact HB.out | apply below_alloc | apply pw_below_drewN | apply below_drew1 | refine below_set ?_ GE258.out | refine below_set ?_ GE259.out) | exact HB.out)), fun _ => (rz HO262.out), fun _ => ⟨_, rfl⟩, z_HO266, Q_HA_HO266, fun h0_ => absurd ((hoff 14 (by kernel_rfl)).symm.trans h0_) (by decide), fun h0_ => absurd ((hoff 4 (by kernel_rfl)).symm.trans h0_) (by decide), Q_X11_⟩
       refine steps_cons ?_ ?_
       ·rintro b a w' ⟨v261, adz_v261, v265, adz_v265, m4_, m11_, ha, Q_BK258, Q_BK259, Q_HB, Q_HO262, Q_HA_HO262, Q_HO266, Q_HA_HO266, Q_BK259_e14, Q_X4_, Q_X11_⟩ hb_ hon hoff
        refine ⟨_, rfl, fun K hK => ?_⟩
        have e9 : a.tmps[9]? = some (.pointer (some ⟨gb258, 3, none⟩)) := by rw [ha]; exact (putSel_off rfl).trans rfl
        replace ha := Aside0.mk ha
        have BK258 := Aside0.mk Q_BK258
        have BK259 := Aside0.mk (Q_BK259 (hoff 14 (by kernel_rfl)))
        have HB := Aside0.mk Q_HB
        have hc0_ : w'.cell? ⟨gb258, 0, none⟩ = some (.string a0_0) := (blk_cell BK258.out 0).trans rfl
        have hc1_ : w'.cell? ⟨gb258, 1, none⟩ = some (.string a0_1) := (blk_cell BK258.out 1).trans rfl
        have hc2_ : w'.cell? ⟨gb258, 2, none⟩ = some (.bool true) := (blk_cell BK258.out 2).trans rfl
        have hc3_ : w'.cell? ⟨gb258, 3, none⟩ = some (.int .u8 a0_3) := (blk_cell BK258.out 3).trans rfl
        refine value_ (w1 := w') (v := .int .u8 a0_3) (by rfl) rfl ?_ ?_
        ·go_simp
         (try simp only [i64_w])
         try rfl
        refine hK.out _ _ ⟨v261, adz_v261, v265, adz_v265, m4_, m11_, (by rw [ha.out]; exact putSel_upk 1 hb_ rfl rfl rfl), Q_BK258, Q_BK259, Q_HB, Q_HO262, Q_HA_HO262, Q_HO266, Q_HA_HO266, fun h0_ => absurd ((hoff 14 (by kernel_rfl)).symm.trans h0_) (by decide), fun h0_ => absurd ((hoff 4 (by kernel_rfl)).symm.trans h0_) (by decide), Q_X11_⟩
       refine steps_cons ?_ ?_
       ·rintro b a w' ⟨v261, adz_v261, v265, adz_v265, m4_, m11_, ha, Q_BK258, Q_BK259, Q_HB, Q_HO262, Q_HA_HO262, Q_HO266, Q_HA_HO266, Q_BK259_e14, Q_X4_, Q_X11_⟩ hb_ hon hoff
        refine ⟨_, rfl, fun K hK => ?_⟩
        have e10 : a.tmps[10]? = some (.int .u8 a0_3) := by rw [ha]; exact putSel_on (e := (2, 10, .int .u8 a0_3)) 1 rfl rfl (hon 2 (by kernel_rfl)) rfl
        replace ha := Aside0.mk ha
        have BK258 := Aside0.mk Q_BK258
        have BK259 := Aside0.mk (Q_BK259 (hoff 14 (by kernel_rfl)))
        have HB := Aside0.mk Q_HB
        refine value_ (w1 := w') (v := .int .u8 ji3) (by rfl) rfl ?_ ?_
        ·go_simp
         (try simp only [i64_w])
         try rfl
        refine hK.out _ _ ⟨v261, adz_v261, v265, adz_v265, m4_, m11_, (by rw [ha.out]; exact putSel_upk 2 hb_ rfl rfl rfl), Q_BK258, Q_BK259, Q_HB, Q_HO262, Q_HA_HO262, Q_HO266, Q_HA_HO266, fun h0_ => absurd ((hoff 14 (by kernel_rfl)).symm.trans h0_) (by decide), fun h0_ => absurd ((hoff 4 (by kernel_rfl)).symm.trans h0_) (by decide), Q_X11_⟩
       refine steps_cons ?_ ?_
       ·rintro b a w' ⟨v261, adz_v261, v265, adz_v265, m4_, m11_, ha, Q_BK258, Q_BK259, Q_HB, Q_HO262, Q_HA_HO262, Q_HO266, Q_HA_HO266, Q_BK259_e14, Q_X4_, Q_X11_⟩ hb_ hon hoff
        refine ⟨_, rfl, fun K hK => ?_⟩
        have e8 : a.tmps[8]? = some (v261) := by rw [ha]; exact putSel_on (e := (0, 8, v261)) 0 rfl rfl (hon 0 (by kernel_rfl)) rfl
        have e11 : a.tmps[11]? = some (.int .u8 ji3) := by rw [ha]; exact putSel_on (e := (3, 11, .int .u8 ji3)) 2 rfl rfl (hon 3 (by kernel_rfl)) rfl
        replace ha := Aside0.mk ha
        have BK258 := Aside0.mk Q_BK258
        have BK259 := Aside0.mk (Q_BK259 (hoff 14 (by kernel_rfl)))
        have HB := Aside0.mk Q_HB
        have HO262 := Aside0.mk (Q_HO262 (hon 0 (by kernel_rfl)))
        have HA_HO262 := Aside0.mk (Q_HA_HO262 (hon 0 (by kernel_rfl)))
        obtain ⟨c_, hv_⟩ := HA_HO262.out
        rw [hv_] at e8
        refine value_ (w1 := w') (v := .pointer (some (adz_v261.add ((ji3)).toNat))) (by rfl) rfl ?_ ?_
        ·go_simp
         (try simp only [i64_w])
         try rfl
        refine hK.out _ _ ⟨v261, adz_v261, v265, adz_v265, (.pointer (some (adz_v261.add ((ji3)).toNat))), m11_, (by rw [ha.out]; exact putSel_upk 3 hb_ rfl rfl rfl), Q_BK258, Q_BK259, Q_HB, Q_HO262, Q_HA_HO262, Q_HO266, Q_HA_HO266, fun h0_ => absurd ((hoff 14 (by kernel_rfl)).symm.trans h0_) (by decide), fun _ => rfl, Q_X11_⟩
       refine steps_cons ?_ ?_
       ·rintro b a w' ⟨v261, adz_v261, v265, adz_v265, m4_, m11_, ha, Q_BK258, Q_BK259, Q_HB, Q_HO262, Q_HA_HO262, Q_HO266, Q_HA_HO266, Q_BK259_e14, Q_X4_, Q_X11_⟩ hb_ hon hoff
        refine ⟨_, rfl, fun K hK => ?_⟩
        have e12 : a.tmps[12]? = some (m4_) := by rw [ha]; exact putSel_on (e := (4, 12, m4_)) 3 rfl rfl (hon 4 (by kernel_rfl)) rfl
        rw [Q_X4_ (hon 4 (by kernel_rfl))] at e12
        replace ha := Aside0.mk ha
        have BK258 := Aside0.mk Q_BK258
        have BK259 := Aside0.mk (Q_BK259 (hoff 14 (by kernel_rfl)))
        have HB := Aside0.mk Q_HB
        have HO262 := Aside0.mk (Q_HO262 (hon 0 (by kernel_rfl)))
        have HA_HO262 := Aside0.mk (Q_HA_HO262 (hon 0 (by kernel_rfl)))
        obtain ⟨c_, hv_⟩ := HA_HO262.out
        have hF_ := HO262.out
        rw [hv_] at hF_
        obtain ⟨ad_, ea_, hx_⟩ := Kd.at_string (Kd.R_reads' hF_).2.2 (ji3) (of_eq_true pi263) (of_eq_true qi263)
        cases ea_
        refine value_ (w1 := w') (v := .string (rdOf ByteArray.empty y260 (ji3))) (by rfl) rfl ?_ ?_
        ·go_simp
         (try simp only [i64_w])
         try rfl
        refine hK.out _ _ ⟨v261, adz_v261, v265, adz_v265, m4_, m11_, (by rw [ha.out]; exact putSel_upk 4 hb_ rfl rfl rfl), Q_BK258, Q_BK259, Q_HB, Q_HO262, Q_HA_HO262, Q_HO266, Q_HA_HO266, fun h0_ => absurd ((hoff 14 (by kernel_rfl)).symm.trans h0_) (by decide), Q_X4_, Q_X11_⟩
       refine steps_cons ?_ ?_
       ·rintro b a w' ⟨v261, adz_v261, v265, adz_v265, m4_, m11_, ha, Q_BK258, Q_BK259, Q_HB, Q_HO262, Q_HA_HO262, Q_HO266, Q_HA_HO266, Q_BK259_e14, Q_X4_, Q_X11_⟩ hb_ hon hoff
        refine ⟨_, rfl, fun K hK => ?_⟩
        replace ha := Aside0.mk ha
        have BK258 := Aside0.mk Q_BK258
        have BK259 := Aside0.mk (Q_BK259 (hoff 14 (by kernel_rfl)))
        have HB := Aside0.mk Q_HB
        refine Kd.R_lit_step Kd.string _ 9 ?hg (N := 14) ?hd (xs := ([(⟨#[97]⟩ : ByteArray), (⟨#[98]⟩ : ByteArray), (⟨#[120, 49]⟩ : ByteArray), (⟨#[53, 109]⟩ : ByteArray), (⟨#[55]⟩ : ByteArray), (⟨#[]⟩ : ByteArray), (⟨#[50, 75, 66]⟩ : ByteArray), (⟨#[97, 98]⟩ : ByteArray)] : List ByteArray)) (inner := [.string (⟨#[97]⟩ : ByteArray), .string (⟨#[98]⟩ : ByteArray), .string (⟨#[120, 49]⟩ : ByteArray), .string (⟨#[53, 109]⟩ : ByteArray), .string (⟨#[55]⟩ : ByteArray), .string (⟨#[]⟩ : ByteArray), .string (⟨#[50, 75, 66]⟩ : ByteArray), .string (⟨#[97, 98]⟩ : ByteArray)]) (ok := fun _ => True) (okp := fun _ => True) ?hr ?hp (fun _ hk => hk) trivial (Below.refl _ _) (Nat.le_refl _) (by simp) ?_; (case hd => rfl); (case hg => rfl); (case hr => first | (go_simp; done) | (go_simp; rfl)); (case hp => exact (Reps.one (show Kd.M Kd.string _ _ _ (⟨#[97]⟩ : ByteArray) [.string (⟨#[97]⟩ : ByteArray)] from rfl) (Reps.one (show Kd.M Kd.string _ _ _ (⟨#[98]⟩ : ByteArray) [.string (⟨#[98]⟩ : ByteArray)] from rfl) (Reps.one (show Kd.M Kd.string _ _ _ (⟨#[120, 49]⟩ : ByteArray) [.string (⟨#[120, 49]⟩ : ByteArray)] from rfl) (Reps.one (show Kd.M Kd.string _ _ _ (⟨#[53, 109]⟩ : ByteArray) [.string (⟨#[53, 109]⟩ : ByteArray)] from rfl) (Reps.one (show Kd.M Kd.string _ _ _ (⟨#[55]⟩ : ByteArray) [.string (⟨#[55]⟩ : ByteArray)] from rfl) (Reps.one (show Kd.M Kd.string _ _ _ (⟨#[]⟩ : ByteArray) [.string (⟨#[]⟩ : ByteArray)] from rfl) (Reps.one (show Kd.M Kd.string _ _ _ (⟨#[50, 75, 66]⟩ : ByteArray) [.string (⟨#[50, 75, 66]⟩ : ByteArray)] from rfl) (Reps.one (show Kd.M Kd.string _ _ _ (⟨#[97, 98]⟩ : ByteArray) [.string (⟨#[97, 98]⟩ : ByteArray)] from rfl) (Reps.none _ _))))))))))
        intro v265 w14 ho15 hb hg_ hnew_
        clear hg_ hnew_
        (first | rw [← Ny264.out] at ho15 | (simp only [Int.reduceToNat] at ho15; rw [← Ny264.out] at ho15))
        have n0_ := Aside0.mk (Kd.R_lower ho15 (below_size (by repeat (first | (with_reducible first | exact HB.out | apply below_alloc | apply pw_below_drewN | apply below_drew1 | refine below_set ?_ GE258.out | refine below_set ?_ GE259.out) | exact HB.out))))
        have n1_ := Aside0.mk (blk_below (g := gb258) (o := .cells #[.string a0_0, .string a0_1, .bool true, .int .u8 a0_3] 71 (0, 0)) (bz BK258.out) hb)
        have n2_ := Aside0.mk (blk_below (g := gb259) (o := .cells #[.string (⟨#[]⟩ : ByteArray), .string (⟨#[]⟩ : ByteArray)] 48 (0, 0)) (bz BK259.out) hb)
        have n3_ := Aside0.mk (below_step (by repeat (first | (with_reducible first | exact HB.out | apply below_alloc | apply pw_below_drewN | apply below_drew1 | refine below_set ?_ GE258.out | refine below_set ?_ GE259.out) | exact HB.out)) hb)
        have z_HO262 := fun (h0_ : b 0 = true) => (show Kd.R Kd.string 9 w14 w.heap.size (fun _ => True) v261 y260 from by first | exact (Kd.R_elder' (by (with_reducible repeat (first | apply Kd.R_alloc | apply Kd.R_drewN | apply Kd.R_drew)); exact (Q_HO262 h0_)) (Kd.R_base ho15) hb) | exact Kd.R_mono (Kd.R_elder' (by (with_reducible repeat (first | apply Kd.R_alloc | apply Kd.R_drewN | apply Kd.R_drew)); exact (Q_HO262 h0_)) (Kd.R_base ho15) hb) (fun _ h_ => by first | trivial | exact h_ | exact h_.1))
        clear BK258
        clear BK259
        clear HB
        have HO266 := n0_
        have BK258 := n1_
        have BK259 := n2_
        have HB := n3_
        clear n0_ n1_ n2_ n3_
        clear hb ho15
        obtain ⟨Ao16, co16, eo16⟩ := Kd.R_slice HO266.out
        subst eo16
        obtain ⟨ado16, fo16, _⟩ := Kd.at_string (Kd.R_reads' HO266.out).2.2 0 (by decide) (by rw [Ny264.out]; simp)
        cases fo16
        refine hK.out _ _ ⟨v261, adz_v261, .slice (some ado16) y264.length co16, ado16, m4_, m11_, (by rw [ha.out]; exact putSel_upk 5 hb_ rfl rfl rfl), (bz BK258.out), fun _ => (bz BK259.out), (by repeat (first | (with_reducible first | exact HB.out | apply below_alloc | apply pw_below_drewN | apply below_drew1 | refine below_set ?_ GE258.out | refine below_set ?_ GE259.out) | exact HB.out)), z_HO262, Q_HA_HO262, fun _ => (rz HO266.out), fun _ => ⟨_, rfl⟩, fun h0_ => absurd ((hoff 14 (by kernel_rfl)).symm.trans h0_) (by decide), Q_X4_, fun h0_ => absurd ((hoff 11 (by kernel_rfl)).symm.trans h0_) (by decide)⟩
       refine steps_cons ?_ ?_
       ·rintro b a w' ⟨v261, adz_v261, v265, adz_v265, m4_, m11_, ha, Q_BK258, Q_BK259, Q_HB, Q_HO262, Q_HA_HO262, Q_HO266, Q_HA_HO266, Q_BK259_e14, Q_X4_, Q_X11_⟩ hb_ hon hoff
        refine ⟨_, rfl, fun K hK => ?_⟩
        have e15 : a.tmps[15]? = some (.pointer (some ⟨gb258, 3, none⟩)) := by rw [ha]; exact (putSel_off rfl).trans rfl
        replace ha := Aside0.mk ha
        have BK258 := Aside0.mk Q_BK258
        have BK259 := Aside0.mk (Q_BK259 (hoff 14 (by kernel_rfl)))
        have HB := Aside0.mk Q_HB
        have hc0_ : w'.cell? ⟨gb258, 0, none⟩ = some (.string a0_0) := (blk_cell BK258.out 0).trans rfl
        have hc1_ : w'.cell? ⟨gb258, 1, none⟩ = some (.string a0_1) := (blk_cell BK258.out 1).trans rfl
        have hc2_ : w'.cell? ⟨gb258, 2, none⟩ = some (.bool true) := (blk_cell BK258.out 2).trans rfl
        have hc3_ : w'.cell? ⟨gb258, 3, none⟩ = some (.int .u8 a0_3) := (blk_cell BK258.out 3).trans rfl
        refine value_ (w1 := w') (v := .int .u8 a0_3) (by rfl) rfl ?_ ?_
        ·go_simp
         (try simp only [i64_w])
         try rfl
        refine hK.out _ _ ⟨v261, adz_v261, v265, adz_v265, m4_, m11_, (by rw [ha.out]; exact putSel_upk 6 hb_ rfl rfl rfl), Q_BK258, Q_BK259, Q_HB, Q_HO262, Q_HA_HO262, Q_HO266, Q_HA_HO266, fun h0_ => absurd ((hoff 14 (by kernel_rfl)).symm.trans h0_) (by decide), Q_X4_, fun h0_ => absurd ((hoff 11 (by kernel_rfl)).symm.trans h0_) (by decide)⟩
       refine steps_cons ?_ ?_
       ·rintro b a w' ⟨v261, adz_v261, v265, adz_v265, m4_, m11_, ha, Q_BK258, Q_BK259, Q_HB, Q_HO262, Q_HA_HO262, Q_HO266, Q_HA_HO266, Q_BK259_e14, Q_X4_, Q_X11_⟩ hb_ hon hoff
        refine ⟨_, rfl, fun K hK => ?_⟩
        have e16 : a.tmps[16]? = some (.int .u8 a0_3) := by rw [ha]; exact putSel_on (e := (8, 16, .int .u8 a0_3)) 6 rfl rfl (hon 8 (by kernel_rfl)) rfl
        replace ha := Aside0.mk ha
        have BK258 := Aside0.mk Q_BK258
        have BK259 := Aside0.mk (Q_BK259 (hoff 14 (by kernel_rfl)))
        have HB := Aside0.mk Q_HB
        refine value_ (w1 := w') (v := .int .u8 ((Int.tdiv a0_3 5) % 256)) (by rfl) rfl ?_ ?_
        ·go_simp
         (try simp only [i64_w])
         try rfl
        refine hK.out _ _ ⟨v261, adz_v261, v265, adz_v265, m4_, m11_, (by rw [ha.out]; exact putSel_upk 7 hb_ rfl rfl rfl), Q_BK258, Q_BK259, Q_HB, Q_HO262, Q_HA_HO262, Q_HO266, Q_HA_HO266, fun h0_ => absurd ((hoff 14 (by kernel_rfl)).symm.trans h0_) (by decide), Q_X4_, fun h0_ => absurd ((hoff 11 (by kernel_rfl)).symm.trans h0_) (by decide)⟩
       refine steps_cons ?_ ?_
       ·rintro b a w' ⟨v261, adz_v261, v265, adz_v265, m4_, m11_, ha, Q_BK258, Q_BK259, Q_HB, Q_HO262, Q_HA_HO262, Q_HO266, Q_HA_HO266, Q_BK259_e14, Q_X4_, Q_X11_⟩ hb_ hon hoff
        refine ⟨_, rfl, fun K hK => ?_⟩
        have e17 : a.tmps[17]? = some (.int .u8 ((Int.tdiv a0_3 5) % 256)) := by rw [ha]; exact putSel_on (e := (9, 17, .int .u8 ((Int.tdiv a0_3 5) % 256))) 7 rfl rfl (hon 9 (by kernel_rfl)) rfl
        replace ha := Aside0.mk ha
        have BK258 := Aside0.mk Q_BK258
        have BK259 := Aside0.mk (Q_BK259 (hoff 14 (by kernel_rfl)))
        have HB := Aside0.mk Q_HB
        refine value_ (w1 := w') (v := .int .u8 ji6) (by rfl) rfl ?_ ?_
        ·go_simp
         (try simp only [i64_w])
         try rfl
        refine hK.out _ _ ⟨v261, adz_v261, v265, adz_v265, m4_, m11_, (by rw [ha.out]; exact putSel_upk 8 hb_ rfl rfl rfl), Q_BK258, Q_BK259, Q_HB, Q_HO262, Q_HA_HO262, Q_HO266, Q_HA_HO266, fun h0_ => absurd ((hoff 14 (by kernel_rfl)).symm.trans h0_) (by decide), Q_X4_, fun h0_ => absurd ((hoff 11 (by kernel_rfl)).symm.trans h0_) (by decide)⟩
       refine steps_cons ?_ ?_
       ·rintro b a w' ⟨v261, adz_v261, v265, adz_v265, m4_, m11_, ha, Q_BK258, Q_BK259, Q_HB, Q_HO262, Q_HA_HO262, Q_HO266, Q_HA_HO266, Q_BK259_e14, Q_X4_, Q_X11_⟩ hb_ hon hoff
        refine ⟨_, rfl, fun K hK => ?_⟩
        have e14 : a.tmps[14]? = some (v265) := by rw [ha]; exact putSel_on (e := (6, 14, v265)) 5 rfl rfl (hon 6 (by kernel_rfl)) rfl
        have e18 : a.tmps[18]? = some (.int .u8 ji6) := by rw [ha]; exact putSel_on (e := (10, 18, .int .u8 ji6)) 8 rfl rfl (hon 10 (by kernel_rfl)) rfl
        replace ha := Aside0.mk ha
        have BK258 := Aside0.mk Q_BK258
        have BK259 := Aside0.mk (Q_BK259 (hoff 14 (by kernel_rfl)))
        have HB := Aside0.mk Q_HB
        have HO266 := Aside0.mk (Q_HO266 (hon 6 (by kernel_rfl)))
        have HA_HO266 := Aside0.mk (Q_HA_HO266 (hon 6 (by kernel_rfl)))
        obtain ⟨c_, hv_⟩ := HA_HO266.out
        rw [hv_] at e14
        refine value_ (w1 := w') (v := .pointer (some (adz_v265.add ((ji6)).toNat))) (by rfl) rfl ?_ ?_
        ·go_simp
         (try simp only [i64_w])
         try rfl
        refine hK.out _ _ ⟨v261, adz_v261, v265, adz_v265, m4_, (.pointer (some (adz_v265.add ((ji6)).toNat))), (by rw [ha.out]; exact putSel_upk 9 hb_ rfl rfl rfl), Q_BK258, Q_BK259, Q_HB, Q_HO262, Q_HA_HO262, Q_HO266, Q_HA_HO266, fun h0_ => absurd ((hoff 14 (by kernel_rfl)).symm.trans h0_) (by decide), Q_X4_, fun _ => rfl⟩
       refine steps_cons ?_ ?_
       ·rintro b a w' ⟨v261, adz_v261, v265, adz_v265, m4_, m11_, ha, Q_BK258, Q_BK259, Q_HB, Q_HO262, Q_HA_HO262, Q_HO266, Q_HA_HO266, Q_BK259_e14, Q_X4_, Q_X11_⟩ hb_ hon hoff
        refine ⟨_, rfl, fun K hK => ?_⟩
        have e19 : a.tmps[19]? = some (m11_) := by rw [ha]; exact putSel_on (e := (11, 19, m11_)) 9 rfl rfl (hon 11 (by kernel_rfl)) rfl
        rw [Q_X11_ (hon 11 (by kernel_rfl))] at e19
        replace ha := Aside0.mk ha
        have BK258 := Aside0.mk Q_BK258
        have BK259 := Aside0.mk (Q_BK259 (hoff 14 (by kernel_rfl)))
        have HB := Aside0.mk Q_HB
        have HO266 := Aside0.mk (Q_HO266 (hon 6 (by kernel_rfl)))
        have HA_HO266 := Aside0.mk (Q_HA_HO266 (hon 6 (by kernel_rfl)))
        obtain ⟨c_, hv_⟩ := HA_HO266.out
        have hF_ := HO266.out
        rw [hv_] at hF_
        obtain ⟨ad_, ea_, hx_⟩ := Kd.at_string (Kd.R_reads' hF_).2.2 (ji6) (of_eq_true pi267) (of_eq_true qi267)
        cases ea_
        refine value_ (w1 := w') (v := .string (rdOf ByteArray.empty y264 (ji6))) (by rfl) rfl ?_ ?_
        ·go_simp
         (try simp only [i64_w])
         try rfl
        refine hK.out _ _ ⟨v261, adz_v261, v265, adz_v265, m4_, m11_, (by rw [ha.out]; exact putSel_upk 10 hb_ rfl rfl rfl), Q_BK258, Q_BK259, Q_HB, Q_HO262, Q_HA_HO262, Q_HO266, Q_HA_HO266, fun h0_ => absurd ((hoff 14 (by kernel_rfl)).symm.trans h0_) (by decide), Q_X4_, Q_X11_⟩
       refine steps_cons ?_ ?_
       ·rintro b a w' ⟨v261, adz_v261, v265, adz_v265, m4_, m11_, ha, Q_BK258, Q_BK259, Q_HB, Q_HO262, Q_HA_HO262, Q_HO266, Q_HA_HO266, Q_BK259_e14, Q_X4_, Q_X11_⟩ hb_ hon hoff
        refine ⟨_, rfl, fun K hK => ?_⟩
        have e13 : a.tmps[13]? = some (.string (rdOf ByteArray.empty y260 (ji3))) := by rw [ha]; exact putSel_on (e := (5, 13, .string (rdOf ByteArray.empty y260 (ji3)))) 4 rfl rfl (hon 5 (by kernel_rfl)) rfl
        have e20 : a.tmps[20]? = some (.string (rdOf ByteArray.empty y264 (ji6))) := by rw [ha]; exact putSel_on (e := (12, 20, .string (rdOf ByteArray.empty y264 (ji6)))) 10 rfl rfl (hon 12 (by kernel_rfl)) rfl
        replace ha := Aside0.mk ha
        have BK258 := Aside0.mk Q_BK258
        have BK259 := Aside0.mk (Q_BK259 (hoff 14 (by kernel_rfl)))
        have HB := Aside0.mk Q_HB
        have HO262 := Aside0.mk (Q_HO262 (hon 0 (by kernel_rfl)))
        have HA_HO262 := Aside0.mk (Q_HA_HO262 (hon 0 (by kernel_rfl)))
        have HO266 := Aside0.mk (Q_HO266 (hon 6 (by kernel_rfl)))
        have HA_HO266 := Aside0.mk (Q_HA_HO266 (hon 6 (by kernel_rfl)))
        refine value_ (w1 := w') (v := .agg #[.string (rdOf ByteArray.empty y260 (ji3)), .string (rdOf ByteArray.empty y264 (ji6))]) (by rfl) rfl ?_ ?_
        ·go_simp
         (try simp only [i64_w])
         try rfl
        refine hK.out _ _ ⟨v261, adz_v261, v265, adz_v265, m4_, m11_, (by rw [ha.out]; exact putSel_upk 11 hb_ rfl rfl rfl), Q_BK258, Q_BK259, Q_HB, Q_HO262, Q_HA_HO262, Q_HO266, Q_HA_HO266, fun h0_ => absurd ((hoff 14 (by kernel_rfl)).symm.trans h0_) (by decide), Q_X4_, Q_X11_⟩
       refine steps_cons ?_ ?_
       ·rintro b a w' ⟨v261, adz_v261, v265, adz_v265, m4_, m11_, ha, Q_BK258, Q_BK259, Q_HB, Q_HO262, Q_HA_HO262, Q_HO266, Q_HA_HO266, Q_BK259_e14, Q_X4_, Q_X11_⟩ hb_ hon hoff
        refine ⟨_, rfl, fun K hK => ?_⟩
        have e2 : a.tmps[2]? = some (.pointer (some ⟨gb259, 0, none⟩)) := by rw [ha]; exact (putSel_off rfl).trans rfl
        have e21 : a.tmps[21]? = some (.agg #[.string (rdOf ByteArray.empty y260 (ji3)), .string (rdOf ByteArray.empty y264 (ji6))]) := by rw [ha]; exact putSel_on (e := (13, 21, .agg #[.string (rdOf ByteArray.empty y260 (ji3)), .string (rdOf ByteArray.empty y264 (ji6))])) 11 rfl rfl (hon 13 (by kernel_rfl)) rfl
        replace ha := Aside0.mk ha
        have BK258 := Aside0.mk Q_BK258
        have BK259 := Aside0.mk (Q_BK259 hb_)
        have HB := Aside0.mk Q_HB
        have HO262 := Aside0.mk (Q_HO262 (hon 0 (by kernel_rfl)))
        have HA_HO262 := Aside0.mk (Q_HA_HO262 (hon 0 (by kernel_rfl)))
        have HO266 := Aside0.mk (Q_HO266 (hon 6 (by kernel_rfl)))
        have HA_HO266 := Aside0.mk (Q_HA_HO266 (hon 6 (by kernel_rfl)))
        obtain ⟨co21, eo21⟩ := HA_HO262.out
        clear HA_HO262
        subst eo21
        obtain ⟨co22, eo22⟩ := HA_HO266.out
        clear HA_HO266
        subst eo22
        have hs23 : w'.cell? ⟨gb259, 0, none⟩ = some (.string (⟨#[]⟩ : ByteArray)) := (blk_cell BK259.out 0).trans rfl
        have hfs23 := blk_frozen BK259.out 0
        have hns23_0 := NB258_259.out
        have hms23_0 := NB259_258.out
        have hs24 : w'.cell? ⟨gb259, 1, none⟩ = some (.string (⟨#[]⟩ : ByteArray)) := (blk_cell BK259.out 1).trans rfl
        have hfs24 := blk_frozen BK259.out 1
        have hns24_0 := NB258_259.out
        have hms24_0 := NB259_258.out
        refine skip_ (w1 := ?_) (by rfl) rfl ?_ ?_
        rotate_left
        ·go_simp
         rfl
        refine hK.out _ _ ⟨.slice (some adz_v261) y260.length co21, adz_v261, .slice (some adz_v265) y264.length co22, adz_v265, m4_, m11_, (by rw [ha.out]; exact putSel_none (v := undef) rfl), (by (with_reducible repeat (first | refine blk_drewN ?_ _ | refine blk_drew ?_ | refine blk_alloc ?_ _)); refine blk_far ?_ NB258_259.out _; (with_reducible repeat (first | refine blk_drewN ?_ _ | refine blk_drew ?_ | refine blk_alloc ?_ _)); refine blk_far ?_ NB258_259.out _; (with_reducible repeat (first | refine blk_drewN ?_ _ | refine blk_drew ?_ | refine blk_alloc ?_ _)); exact BK258.out), fun h0_ => absurd ((up_self b 14).symm.trans h0_) (by decide), (by repeat (first | (with_reducible first | exact HB.out | apply below_alloc | apply pw_below_drewN | apply below_drew1 | refine below_set ?_ GE258.out | refine below_set ?_ GE259.out) | exact HB.out)), fun _ => (by (with_reducible repeat (first | apply Kd.R_alloc | apply Kd.R_drewN | apply Kd.R_drew)); exact Kd.R_mono (Kd.R_far (p := ⟨gb259, 1, none⟩) (Kd.R_far (p := ⟨gb259, 0, none⟩) (Kd.R_types HO262.out BK259.out (by decide)) (fun _ hk => hk.2) (.string (rdOf ByteArray.empty y260 (ji3)))) (fun _ hk => hk.2) (.string (rdOf ByteArray.empty y264 (ji6)))) (fun _ hk => hk.1)), fun _ => ⟨_, rfl⟩, fun _ => (by (with_reducible repeat (first | apply Kd.R_alloc | apply Kd.R_drewN | apply Kd.R_drew)); exact Kd.R_mono (Kd.R_far (p := ⟨gb259, 1, none⟩) (Kd.R_far (p := ⟨gb259, 0, none⟩) (Kd.R_types HO266.out BK259.out (by decide)) (fun _ hk => hk.2) (.string (rdOf ByteArray.empty y260 (ji3)))) (fun _ hk => hk.2) (.string (rdOf ByteArray.empty y264 (ji6)))) (fun _ hk => hk.1)), fun _ => ⟨_, rfl⟩, fun _ => (by (with_reducible repeat (first | refine blk_drewN ?_ _ | refine blk_drew ?_ | refine blk_alloc ?_ _)); refine blk_put (cs := #[.string (rdOf ByteArray.empty y260 (ji3)), .string (⟨#[]⟩ : ByteArray)]) ?_ 1 _ rfl; (with_reducible repeat (first | refine blk_drewN ?_ _ | refine blk_drew ?_ | refine blk_alloc ?_ _)); refine blk_put (cs := #[.string (⟨#[]⟩ : ByteArray), .string (⟨#[]⟩ : ByteArray)]) ?_ 0 _ rfl; (with_reducible repeat (first | refine blk_drewN ?_ _ | refine blk_drew ?_ | refine blk_alloc ?_ _)); exact BK259.out), Q_X4_, Q_X11_⟩
       exact steps_nil
      rintro b a w22 hall ⟨v261, adz_v261, v265, adz_v265, m4_, m11_, ha, Q_BK258, Q_BK259, Q_HB, Q_HO262, Q_HA_HO262, Q_HO266, Q_HA_HO266, Q_BK259_e14, Q_X4_, Q_X11_⟩
      clear BK258 BK259 HB
      have hb0_ := hall 0 (by kernel_rfl)
      have hb2_ := hall 2 (by kernel_rfl)
      have hb3_ := hall 3 (by kernel_rfl)
      have hb4_ := hall 4 (by kernel_rfl)
      have hb5_ := hall 5 (by kernel_rfl)
      have hb6_ := hall 6 (by kernel_rfl)
      have hb8_ := hall 8 (by kernel_rfl)
      have hb9_ := hall 9 (by kernel_rfl)
      have hb10_ := hall 10 (by kernel_rfl)
      have hb11_ := hall 11 (by kernel_rfl)
      have hb12_ := hall 12 (by kernel_rfl)
      have hb13_ := hall 13 (by kernel_rfl)
      have hb14_ := hall 14 (by kernel_rfl)
      subst ha
      obtain rfl := Q_X4_ hb4_
      obtain rfl := Q_X11_ hb11_
      simp only [putSel, hb0_, hb2_, hb3_, hb4_, hb5_, hb6_, hb8_, hb9_, hb10_, hb11_, hb12_, hb13_, hb14_, if_true, Act.put, List.setIfInBounds_toArray, List.set_cons_zero, List.set_cons_succ]
      have BK258 := Aside0.mk Q_BK258
      clear Q_BK258
      clear Q_BK259
      have HB := Aside0.mk Q_HB
      clear Q_HB
      have HO262 := Aside0.mk (Q_HO262 hb0_)
      clear Q_HO262
      have HA_HO262 := Aside0.mk (Q_HA_HO262 hb0_)
      clear Q_HA_HO262
      have HO266 := Aside0.mk (Q_HO266 hb6_)
      clear Q_HO266
      have HA_HO266 := Aside0.mk (Q_HA_HO266 hb6_)
      clear Q_HA_HO266
      have BK259 := Aside0.mk (Q_BK259_e14 hb14_)
      clear Q_BK259_e14
      clear hall hb0_ hb2_ hb3_ hb4_ hb5_ hb6_ hb8_ hb9_ hb10_ hb11_ hb12_ hb13_ hb14_
      obtain ⟨co23, eo23⟩ := HA_HO262.out
      clear HA_HO262
      subst eo23
      obtain ⟨co24, eo24⟩ := HA_HO266.out
      clear HA_HO266
      subst eo24
      try go_wp2
      refine bodyPost_ret (results_cell_row rfl _ _ gb259 48 #[.string (rdOf ByteArray.empty y260 (ji3)), .string (rdOf ByteArray.empty y264 (ji6))] (0, 0) _ rfl (bz BK259.out) Tryd.underlying48 rfl (by kernel_rfl)) rfl ?_
      exact ⟨by first | rfl | (simp [errW_none, errW_some] <;> rfl) | (simp only [← hji3, ← hji6]; first | rfl | (simp [errW_none, errW_some] <;> rfl)) | (simp [*, errW_none, errW_some] <;> rfl), by repeat (first | (with_reducible first | exact HB.out | apply below_alloc | apply pw_below_drewN | apply below_drew1 | refine below_set ?_ GE258.out | refine below_set ?_ GE259.out) | exact HB.out)⟩
     ·rw [if_neg c8] at H
      exact absurd H (by simp)
    ·rw [if_neg c7] at H
     exact absurd H (by simp)
   ·rw [if_neg c5] at H
    exact absurd H (by simp)
  ·rw [if_neg c4] at H
   exact absurd H (by simp)
 ·replace c2 := Bool.eq_false_iff.mpr c2
  subst c2
  have H1 : (some (a0_0, a0_1)) = some (r1, r2) := by rw [if_neg (show ¬ (false = true) by decide)] at H; exact H
  clear H
  have H := H1
  clear H1
  simp only [Option.some.injEq, Prod.mk.injEq] at H
  obtain ⟨rfl, rfl⟩ := H
  go_enter Tryd.func34, Tryd.ntmps34
  go_wp2_with (first | ((with_reducible refine gate_dst (N := 1) rfl ?_); refine box_event ?hg (N := 1) ?hd (cs := #[.string a0_0, .string a0_1, .bool false, .int .u8 a0_3]) (t := 71) ?hr ?_; (case hd => rfl); (case hg => rfl); (case hr => first | (go_simp; done) | (go_simp; rfl)); intro gb258 hg w25 hbox hb; have n0_ := Aside0.mk (below_step bl hb); have n1_ := Aside0.mk (hbox); have n2_ := Aside0.mk ((by rw [hg]; exact (below_size bl) : w.heap.size ≤ gb258)); have n3_ := Aside0.mk ((by rw [hg]; exact (below_size bl) : w.heap.size ≤ gb258)); clear HB; have HB := n0_; have BK258 := n1_; have GW258 := n2_; have GE258 := n3_; clear n0_ n1_ n2_ n3_; clear hb hbox hg) | ((with_reducible refine gate_dst (N := 2) rfl ?_); refine box_event ?hg (N := 2) ?hd (cs := #[.string (⟨#[]⟩ : ByteArray), .string (⟨#[]⟩ : ByteArray)]) (t := 48) ?hr ?_; (case hd => rfl); (case hg => rfl); (case hr => first | (go_simp; done) | (go_simp; rfl)); intro gb259 hg w26 hbox hb; have n0_ := Aside0.mk (blk_below (g := gb258) (o := .cells #[.string a0_0, .string a0_1, .bool false, .int .u8 a0_3] 71 (0, 0)) (bz BK258.out) hb); have n1_ := Aside0.mk (below_step (by repeat (first | (with_reducible first | exact HB.out | apply below_alloc | apply pw_below_drewN | apply below_drew1 | refine below_set ?_ GE258.out) | exact HB.out)) hb); have n2_ := Aside0.mk (hbox); have n3_ := Aside0.mk ((by rw [hg]; exact (below_size (by repeat (first | (with_reducible first | exact HB.out | apply below_alloc | apply pw_below_drewN | apply below_drew1 | refine below_set ?_ GE258.out) | exact HB.out))) : w.heap.size ≤ gb259)); have n4_ := Aside0.mk ((by rw [hg]; exact (below_size (by repeat (first | (with_reducible first | exact HB.out | apply below_alloc | apply pw_below_drewN | apply below_drew1 | refine below_set ?_ GE258.out) | exact HB.out))) : w.heap.size ≤ gb259)); have n5_ := Aside0.mk ((by rw [hg]; exact Nat.ne_of_lt (blk_lt (g := gb258) (o := .cells #[.string a0_0, .string a0_1, .bool false, .int .u8 a0_3] 71 (0, 0)) (bz BK258.out)) : gb258 ≠ gb259)); have n6_ := Aside0.mk ((by rw [hg]; exact Nat.ne_of_gt (blk_lt (g := gb258) (o := .cells #[.string a0_0, .string a0_1, .bool false, .int .u8 a0_3] 71 (0, 0)) (bz BK258.out)) : gb259 ≠ gb258)); clear BK258; clear HB; have BK258 := n0_; have HB := n1_; have BK259 := n2_; have GW259 := n3_; have GE259 := n4_; have NB258_259 := n5_; have NB259_258 := n6_; clear n0_ n1_ n2_ n3_ n4_ n5_ n6_; clear hb hbox hg; have hnb27 := NB258_259.out; have hnc27 := NB259_258.out; have hcz28_0 : w26.cell? ⟨gb258, 0, none⟩ = some (.string a0_0) := (blk_cell BK258.out 0).trans rfl; have hcz28_1 : w26.cell? ⟨gb258, 1, none⟩ = some (.string a0_1) := (blk_cell BK258.out 1).trans rfl; have hcz28_2 : w26.cell? ⟨gb258, 2, none⟩ = some (.bool false) := (blk_cell BK258.out 2).trans rfl; have hcz28_3 : w26.cell? ⟨gb258, 3, none⟩ = some (.int .u8 a0_3) := (blk_cell BK258.out 3).trans rfl; have hfz28_0 := blk_frozen BK258.out 0; have hfz28_1 := blk_frozen BK258.out 1; have hfz28_2 := blk_frozen BK258.out 2; have hfz28_3 := blk_frozen BK258.out 3; have hcz29_0 : w26.cell? ⟨gb259, 0, none⟩ = some (.string (⟨#[]⟩ : ByteArray)) := (blk_cell BK259.out 0).trans rfl; have hcz29_1 : w26.cell? ⟨gb259, 1, none⟩ = some (.string (⟨#[]⟩ : ByteArray)) := (blk_cell BK259.out 1).trans rfl; have hfz29_0 := blk_frozen BK259.out 0; have hfz29_1 := blk_frozen BK259.out 1))
  refine bodyPost_ret (results_cell_row rfl _ _ gb259 48 #[.string a0_0, .string a0_1] (0, 0) _ rfl (by (with_reducible repeat (first | refine blk_drewN ?_ _ | refine blk_drew ?_ | refine blk_alloc ?_ _)); refine blk_put (cs := #[.string a0_0, .string (⟨#[]⟩ : ByteArray)]) ?_ 1 _ rfl; (with_reducible repeat (first | refine blk_drewN ?_ _ | refine blk_drew ?_ | refine blk_alloc ?_ _)); refine blk_put (cs := #[.string (⟨#[]⟩ : ByteArray), .string (⟨#[]⟩ : ByteArray)]) ?_ 0 _ rfl; (with_reducible repeat (first | refine blk_drewN ?_ _ | refine blk_drew ?_ | refine blk_alloc ?_ _)); exact BK259.out) Tryd.underlying48 rfl (by kernel_rfl)) rfl ?_
  exact ⟨by first | rfl | (simp [errW_none, errW_some] <;> rfl) | (simp [*, errW_none, errW_some] <;> rfl), by repeat (first | (with_reducible first | exact HB.out | apply below_alloc | apply pw_below_drewN | apply below_drew1 | refine below_set ?_ GE258.out | refine below_set ?_ GE259.out) | exact HB.out)⟩

end Go.Proofs.YtjmbddgbojcpmaaDoor.X
