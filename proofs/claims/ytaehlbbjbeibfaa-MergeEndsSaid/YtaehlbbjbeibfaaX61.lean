-- Laid by xprint.py, a program of this session's, out of the translation.
import Derived.Test.YtaehlbbjbeibfaaX60
import Derived.Test.YtaehlbbjbeibfaaX0
import Derived.Test.YtaehlbbjbeibfaaX2
import Derived.Test.YtaehlbbjbeibfaaX3
import Derived.Test.YtaehlbbjbeibfaaX4
namespace Go.Proofs.Ytaehlbbjbeibfaa.X
open Go.RowKit Go.Proofs.YtaehlbbjbeibfaaW.PrintWords Go.Proofs.YtaehlbbjbeibfaaW.PrintLast Go.Proofs.YtaehlbbjbeibfaaW.PrintMore
attribute [local go_sem] max2_int min2_int max_two min_two max_three min_three max_four min_four x_isSome x_str_gtr x_str_leq x_str_geq   -- for this text's walks alone
set_option linter.unusedVariables false
set_option linter.unusedSimpArgs false

/-! ### archivistlaw16_examples: function 8 -/
def archivistlaw16_examples.f (k : Nat) : Option Bool := some true
theorem archivistlaw16_examples.mono : ∀ k, LeO (archivistlaw16_examples.f k) (archivistlaw16_examples.f (k + 1)) := fun _ => LeO.refl _
/-- a block of entries without labels, as a row that is read -/
theorem archivistlaw16_examples.row {W : World} {g : Nat} {cs : Array Value} {t : TypeId} (h : W.heap[g]? = some (.cells cs t (0, 0))) (es : List S26) (hl : es.length ≤ 100) (hc : ∀ j p, es[j]? = some p → p.f1 = [] ∧ cs[j * 3]? = some (.int .i64 p.f0) ∧ cs[j * 3 + 1]? = some (.slice none 0 0) ∧ cs[j * 3 + 2]? = some (.string p.f2)) : Kd.F k26 W (fun _ => True) (some ⟨g, 0, none⟩) es.length es := by
  intro W' hW
  have h' : W'.heap[g]? = some (.cells cs t (0, 0)) := (hW g trivial (blk_lt h)).trans h
  refine ⟨rfl, by omega, fun _ => ⟨_, rfl, fun j p hj => ?_⟩⟩
  obtain ⟨h1, h2, h3, h4⟩ := hc j p hj
  refine ⟨[.int .i64 p.f0, .slice none p.f1.length 0, .string p.f2], rfl, k26_mk W' p (by rw [h1]; exact Nat.le_refl _) (by rw [h1]; exact Kd.C_nil _ _), fun i u hu => ?_⟩
  have hk : k26.sz = 3 := rfl
  rw [add_plain, blk_cell h', hk]
  rcases i with _ | _ | _ | i
  · simp only [List.getElem?_cons_zero, Option.some.injEq] at hu
    subst hu
    exact h2
  · simp only [List.getElem?_cons_succ, List.getElem?_cons_zero, Option.some.injEq] at hu
    subst hu
    rw [h1]
    exact h3
  · simp only [List.getElem?_cons_succ, List.getElem?_cons_zero, Option.some.injEq] at hu
    subst hu
    exact h4
  · simp at hu
/-- a block of lists -/
theorem archivistlaw16_examples.rows {W : World} {g : Nat} {cs : Array Value} {t : TypeId} (h : W.heap[g]? = some (.cells cs t (0, 0))) (ls : List (List S26)) (hl : ls.length ≤ 100) (hc : ∀ (j : Nat) (l : List S26), ls[j]? = some l → ∃ (A : Option Addr) (c : Nat), cs[j]? = some (Value.slice A l.length c) ∧ l.length ≤ c ∧ Kd.F k26 W (fun _ => True) A l.length l) : Kd.F (Kd.slice 26 k26) W (fun _ => True) (some ⟨g, 0, none⟩) ls.length ls := by
  intro W' hW
  have h' : W'.heap[g]? = some (.cells cs t (0, 0)) := (hW g trivial (blk_lt h)).trans h
  refine ⟨rfl, by omega, fun _ => ⟨_, rfl, fun j p hj => ?_⟩⟩
  obtain ⟨A, c, h1, h2, h3⟩ := hc j p hj
  refine ⟨[.slice A p.length c], rfl, ⟨A, c, rfl, h2, h3 W' hW⟩, fun i u hu => ?_⟩
  rw [add_plain, blk_cell h']
  rcases i with _ | i
  · simp only [List.getElem?_cons_zero, Option.some.injEq] at hu
    subst hu
    have hk : (Kd.slice 26 k26).sz = 1 := rfl
    rw [hk, Nat.mul_one, Nat.add_zero]
    exact h1
  · simp at hu
/-- a row's cells are these entries' -/
def archivistlaw16_examples.Ok (cs : Array Value) (es : List S26) : Prop := ∀ j p, es[j]? = some p → p.f1 = [] ∧ cs[j * 3]? = some (.int .i64 p.f0) ∧ cs[j * 3 + 1]? = some (.slice none 0 0) ∧ cs[j * 3 + 2]? = some (.string p.f2)
def archivistlaw16_examples.cl (e : S26) : List Value := [.int .i64 e.f0, .slice none 0 0, .string e.f2]
theorem archivistlaw16_examples.okl (es : List S26) (h : ∀ e ∈ es, e.f1 = []) : archivistlaw16_examples.Ok (es.flatMap archivistlaw16_examples.cl).toArray es := by
  intro j p hj
  refine ⟨h p (List.mem_of_getElem? hj), ?_⟩
  induction es generalizing j with
  | nil => simp at hj
  | cons e t ih =>
    cases j with
    | zero =>
      simp only [List.getElem?_cons_zero, Option.some.injEq] at hj
      subst hj
      exact ⟨rfl, rfl, rfl⟩
    | succ j =>
      have := ih (fun e he => h e (List.mem_cons_of_mem _ he)) j (by simpa using hj)
      simp only [List.getElem?_toArray, List.flatMap_cons] at this ⊢
      have hl : (archivistlaw16_examples.cl e).length = 3 := rfl
      refine ⟨?_, ?_, ?_⟩
      · rw [List.getElem?_append_right (by omega), hl, show (j + 1) * 3 - 3 = j * 3 by omega]; exact this.1
      · rw [List.getElem?_append_right (by omega), hl, show (j + 1) * 3 + 1 - 3 = j * 3 + 1 by omega]; exact this.2.1
      · rw [List.getElem?_append_right (by omega), hl, show (j + 1) * 3 + 2 - 3 = j * 3 + 2 by omega]; exact this.2.2
theorem archivistlaw16_examples.two (W : World) (e1 e2 : List S26) (h1 : ∀ e ∈ e1, e.f1 = []) (h2 : ∀ e ∈ e2, e.f1 = []) (l1 : e1.length ≤ 100) (l2 : e2.length ≤ 100) {W1 W2 W3 : World} (w1 : W1 = W.alloc (.cells (e1.flatMap archivistlaw16_examples.cl).toArray 26)) (w2 : W2 = W1.alloc (.cells (e2.flatMap archivistlaw16_examples.cl).toArray 26)) (w3 : W3 = W2.alloc (.cells #[.slice (some ⟨W.heap.size, 0, none⟩) e1.length e1.length, .slice (some ⟨W.heap.size + 1, 0, none⟩) e2.length e2.length] 34)) :
    Kd.V (Kd.slice 26 k26) 34 W3 W3.heap.size (fun _ => True) (.slice (some ⟨W.heap.size + 1 + 1, 0, none⟩) 2 2) [e1, e2] := by
  subst w1 w2 w3
  have b1 := blk_alloc (blk_alloc (blk_new W (.cells (e1.flatMap archivistlaw16_examples.cl).toArray 26)) (.cells (e2.flatMap archivistlaw16_examples.cl).toArray 26)) (.cells #[.slice (some ⟨W.heap.size, 0, none⟩) e1.length e1.length, .slice (some ⟨W.heap.size + 1, 0, none⟩) e2.length e2.length] 34)
  have b2 := blk_alloc (blk_new (W.alloc (.cells (e1.flatMap archivistlaw16_examples.cl).toArray 26)) (.cells (e2.flatMap archivistlaw16_examples.cl).toArray 26)) (.cells #[.slice (some ⟨W.heap.size, 0, none⟩) e1.length e1.length, .slice (some ⟨W.heap.size + 1, 0, none⟩) e2.length e2.length] 34)
  have b3 := blk_new ((W.alloc (.cells (e1.flatMap archivistlaw16_examples.cl).toArray 26)).alloc (.cells (e2.flatMap archivistlaw16_examples.cl).toArray 26)) (.cells #[.slice (some ⟨W.heap.size, 0, none⟩) e1.length e1.length, .slice (some ⟨W.heap.size + 1, 0, none⟩) e2.length e2.length] 34)
  rw [show (W.alloc (.cells (e1.flatMap archivistlaw16_examples.cl).toArray 26)).heap.size = W.heap.size + 1 by simp] at b2
  rw [show ((W.alloc (.cells (e1.flatMap archivistlaw16_examples.cl).toArray 26)).alloc (.cells (e2.flatMap archivistlaw16_examples.cl).toArray 26)).heap.size = W.heap.size + 1 + 1 by simp] at b3
  refine ⟨_, _, rfl, Nat.le_refl _, archivistlaw16_examples.rows b3 [e1, e2] (by simp) (fun j l hj => ?_)⟩
  rcases j with _ | _ | j
  · simp only [List.getElem?_cons_zero, Option.some.injEq] at hj
    subst hj
    exact ⟨_, _, rfl, Nat.le_refl _, archivistlaw16_examples.row b1 e1 l1 (archivistlaw16_examples.okl e1 h1)⟩
  · simp only [List.getElem?_cons_succ, List.getElem?_cons_zero, Option.some.injEq] at hj
    subst hj
    exact ⟨_, _, rfl, Nat.le_refl _, archivistlaw16_examples.row b2 e2 l2 (archivistlaw16_examples.okl e2 h2)⟩
  · simp at hj
theorem archivistlaw16_examples.one (W : World) (e1 : List S26) (h1 : ∀ e ∈ e1, e.f1 = []) (l1 : e1.length ≤ 100) {W1 W3 : World} (w1 : W1 = W.alloc (.cells (e1.flatMap archivistlaw16_examples.cl).toArray 26)) (w3 : W3 = W1.alloc (.cells #[.slice (some ⟨W.heap.size, 0, none⟩) e1.length e1.length] 34)) :
    Kd.V (Kd.slice 26 k26) 34 W3 W3.heap.size (fun _ => True) (.slice (some ⟨W.heap.size + 1, 0, none⟩) 1 1) [e1] := by
  subst w1 w3
  have b1 := blk_alloc (blk_new W (.cells (e1.flatMap archivistlaw16_examples.cl).toArray 26)) (.cells #[.slice (some ⟨W.heap.size, 0, none⟩) e1.length e1.length] 34)
  have b3 := blk_new (W.alloc (.cells (e1.flatMap archivistlaw16_examples.cl).toArray 26)) (.cells #[.slice (some ⟨W.heap.size, 0, none⟩) e1.length e1.length] 34)
  rw [show (W.alloc (.cells (e1.flatMap archivistlaw16_examples.cl).toArray 26)).heap.size = W.heap.size + 1 by simp] at b3
  refine ⟨_, _, rfl, Nat.le_refl _, archivistlaw16_examples.rows b3 [e1] (by simp) (fun j l hj => ?_)⟩
  rcases j with _ | j
  · simp only [List.getElem?_cons_zero, Option.some.injEq] at hj
    subst hj
    exact ⟨_, _, rfl, Nat.le_refl _, archivistlaw16_examples.row b1 e1 l1 (archivistlaw16_examples.okl e1 h1)⟩
  · simp at hj
theorem archivistlaw16_examples.lst (W : World) (e1 : List S26) (h1 : ∀ e ∈ e1, e.f1 = []) (l1 : e1.length ≤ 100) {W1 : World} (w1 : W1 = W.alloc (.cells (e1.flatMap archivistlaw16_examples.cl).toArray 26)) :
    Kd.V k26 26 W1 W1.heap.size (fun _ => True) (.slice (some ⟨W.heap.size, 0, none⟩) e1.length e1.length) e1 := by
  subst w1
  exact ⟨_, _, rfl, Nat.le_refl _, archivistlaw16_examples.row (blk_new W _) e1 l1 (archivistlaw16_examples.okl e1 h1)⟩
def archivistlaw16_examples.a : S26 := ⟨1, [], ⟨#[97]⟩⟩
def archivistlaw16_examples.b : S26 := ⟨2, [], ⟨#[98]⟩⟩
def archivistlaw16_examples.c : S26 := ⟨3, [], ⟨#[99]⟩⟩
theorem archivistlaw16_examples.all1 : merge_All.f 0 true 9 [[archivistlaw16_examples.a, archivistlaw16_examples.c], [archivistlaw16_examples.a, archivistlaw16_examples.b, archivistlaw16_examples.b]] = some ([archivistlaw16_examples.a, archivistlaw16_examples.b, archivistlaw16_examples.c], true) := by kernel_rfl
theorem archivistlaw16_examples.all2 : merge_All.f 0 false 2 [[archivistlaw16_examples.c, archivistlaw16_examples.a], [archivistlaw16_examples.b]] = some ([archivistlaw16_examples.c, archivistlaw16_examples.b], true) := by kernel_rfl
theorem archivistlaw16_examples.all3 : merge_All.f 0 true 9 [[archivistlaw16_examples.b, archivistlaw16_examples.a]] = some ([], false) := by kernel_rfl
theorem archivistlaw16_examples.fst1 : merge_First.f 0 false [archivistlaw16_examples.a, archivistlaw16_examples.c, archivistlaw16_examples.b] = some (3, [], ⟨#[99]⟩, true) := by kernel_rfl
theorem archivistlaw16_examples.fst2 : merge_First.f 0 true [] = some (0, [], ⟨#[]⟩, false) := by kernel_rfl
theorem archivistlaw16_examples.upto : merge_Upto.f 30 true 2 [] ⟨#[98]⟩ [archivistlaw16_examples.a, archivistlaw16_examples.b, archivistlaw16_examples.c] = some [archivistlaw16_examples.a, archivistlaw16_examples.b] := by kernel_rfl
set_option maxHeartbeats 8000000 in
set_option maxRecDepth 1000000 in
theorem archivistlaw16_examples.calls (k : Nat) (r : Bool) (w : World) (h : archivistlaw16_examples.f k = some r) :
    Calls Try.prog 8 #[] w fun e w' => e = .returned (.bool r) ∧ Below w.heap.size w w' := by
  obtain rfl : true = r := Option.some.inj h
  clear h
  have b1 := blk_alloc (blk_alloc (blk_new w (.cells #[.int .i64 1, .slice none 0 0, .string ⟨#[97]⟩] 26)) (.cells #[.int .i64 2, .slice none 0 0, .string ⟨#[98]⟩] 26)) (.cells #[.int .i64 3, .slice none 0 0, .string ⟨#[99]⟩] 26)
  have b2 := blk_alloc (blk_new (w.alloc (.cells #[.int .i64 1, .slice none 0 0, .string ⟨#[97]⟩] 26)) (.cells #[.int .i64 2, .slice none 0 0, .string ⟨#[98]⟩] 26)) (.cells #[.int .i64 3, .slice none 0 0, .string ⟨#[99]⟩] 26)
  have b3 := blk_new ((w.alloc (.cells #[.int .i64 1, .slice none 0 0, .string ⟨#[97]⟩] 26)).alloc (.cells #[.int .i64 2, .slice none 0 0, .string ⟨#[98]⟩] 26)) (.cells #[.int .i64 3, .slice none 0 0, .string ⟨#[99]⟩] 26)
  have hb := below_alloc (below_alloc (below_alloc (Below.refl w.heap.size w) (.cells #[.int .i64 1, .slice none 0 0, .string ⟨#[97]⟩] 26)) (.cells #[.int .i64 2, .slice none 0 0, .string ⟨#[98]⟩] 26)) (.cells #[.int .i64 3, .slice none 0 0, .string ⟨#[99]⟩] 26)
  rw [show (w.alloc (.cells #[.int .i64 1, .slice none 0 0, .string ⟨#[97]⟩] 26)).heap.size = w.heap.size + 1 by simp] at b2
  rw [show ((w.alloc (.cells #[.int .i64 1, .slice none 0 0, .string ⟨#[97]⟩] 26)).alloc (.cells #[.int .i64 2, .slice none 0 0, .string ⟨#[98]⟩] 26)).heap.size = w.heap.size + 1 + 1 by simp] at b3
  have K1 := Aside0.mk b1
  have K2 := Aside0.mk b2
  have K3 := Aside0.mk b3
  have HB := Aside0.mk hb
  clear b1 b2 b3 hb
  go_enter Try.func8, Try.ntmps8
  go_upto_region 4 with (fail)
  generalize ((w.alloc (.cells #[.int .i64 1, .slice none 0 0, .string ⟨#[97]⟩] 26)).alloc (.cells #[.int .i64 2, .slice none 0 0, .string ⟨#[98]⟩] 26)).alloc (.cells #[.int .i64 3, .slice none 0 0, .string ⟨#[99]⟩] 26) = w3 at K1 K2 K3 HB ⊢
  obtain ⟨g1, hg1⟩ : ∃ q, w.heap.size = q := ⟨_, rfl⟩
  obtain ⟨g2, hg2⟩ : ∃ q, w.heap.size + 1 = q := ⟨_, rfl⟩
  obtain ⟨g3, hg3⟩ : ∃ q, w.heap.size + 1 + 1 = q := ⟨_, rfl⟩
  rw [hg3, hg2, hg1]
  rw [hg1] at K1
  rw [hg2] at K2
  rw [hg3] at K3
  have pa0 : w3.cell? ⟨g1, 0, none⟩ = some (.int .i64 1) := (blk_cell K1.out 0).trans rfl
  have pa1 : w3.cell? ⟨g1, 1, none⟩ = some (.slice none 0 0) := (blk_cell K1.out 1).trans rfl
  have pa2 : w3.cell? ⟨g1, 2, none⟩ = some (.string ⟨#[97]⟩) := (blk_cell K1.out 2).trans rfl
  have pb0 : w3.cell? ⟨g2, 0, none⟩ = some (.int .i64 2) := (blk_cell K2.out 0).trans rfl
  have pb1 : w3.cell? ⟨g2, 1, none⟩ = some (.slice none 0 0) := (blk_cell K2.out 1).trans rfl
  have pb2 : w3.cell? ⟨g2, 2, none⟩ = some (.string ⟨#[98]⟩) := (blk_cell K2.out 2).trans rfl
  have pc0 : w3.cell? ⟨g3, 0, none⟩ = some (.int .i64 3) := (blk_cell K3.out 0).trans rfl
  have pc1 : w3.cell? ⟨g3, 1, none⟩ = some (.slice none 0 0) := (blk_cell K3.out 1).trans rfl
  have pc2 : w3.cell? ⟨g3, 2, none⟩ = some (.string ⟨#[99]⟩) := (blk_cell K3.out 2).trans rfl
  have qa0 : (w3.alloc (.cells #[.int .i64 1, .slice none 0 0, .string ⟨#[97]⟩, .int .i64 3, .slice none 0 0, .string ⟨#[99]⟩] 26)).cell? ⟨g1, 0, none⟩ = some (.int .i64 1) := (blk_cell (blk_alloc K1.out _) 0).trans rfl
  have qa1 : (w3.alloc (.cells #[.int .i64 1, .slice none 0 0, .string ⟨#[97]⟩, .int .i64 3, .slice none 0 0, .string ⟨#[99]⟩] 26)).cell? ⟨g1, 1, none⟩ = some (.slice none 0 0) := (blk_cell (blk_alloc K1.out _) 1).trans rfl
  have qa2 : (w3.alloc (.cells #[.int .i64 1, .slice none 0 0, .string ⟨#[97]⟩, .int .i64 3, .slice none 0 0, .string ⟨#[99]⟩] 26)).cell? ⟨g1, 2, none⟩ = some (.string ⟨#[97]⟩) := (blk_cell (blk_alloc K1.out _) 2).trans rfl
  have qb0 : (w3.alloc (.cells #[.int .i64 1, .slice none 0 0, .string ⟨#[97]⟩, .int .i64 3, .slice none 0 0, .string ⟨#[99]⟩] 26)).cell? ⟨g2, 0, none⟩ = some (.int .i64 2) := (blk_cell (blk_alloc K2.out _) 0).trans rfl
  have qb1 : (w3.alloc (.cells #[.int .i64 1, .slice none 0 0, .string ⟨#[97]⟩, .int .i64 3, .slice none 0 0, .string ⟨#[99]⟩] 26)).cell? ⟨g2, 1, none⟩ = some (.slice none 0 0) := (blk_cell (blk_alloc K2.out _) 1).trans rfl
  have qb2 : (w3.alloc (.cells #[.int .i64 1, .slice none 0 0, .string ⟨#[97]⟩, .int .i64 3, .slice none 0 0, .string ⟨#[99]⟩] 26)).cell? ⟨g2, 2, none⟩ = some (.string ⟨#[98]⟩) := (blk_cell (blk_alloc K2.out _) 2).trans rfl
  have qc0 : (w3.alloc (.cells #[.int .i64 1, .slice none 0 0, .string ⟨#[97]⟩, .int .i64 3, .slice none 0 0, .string ⟨#[99]⟩] 26)).cell? ⟨g3, 0, none⟩ = some (.int .i64 3) := (blk_cell (blk_alloc K3.out _) 0).trans rfl
  have qc1 : (w3.alloc (.cells #[.int .i64 1, .slice none 0 0, .string ⟨#[97]⟩, .int .i64 3, .slice none 0 0, .string ⟨#[99]⟩] 26)).cell? ⟨g3, 1, none⟩ = some (.slice none 0 0) := (blk_cell (blk_alloc K3.out _) 1).trans rfl
  have qc2 : (w3.alloc (.cells #[.int .i64 1, .slice none 0 0, .string ⟨#[97]⟩, .int .i64 3, .slice none 0 0, .string ⟨#[99]⟩] 26)).cell? ⟨g3, 2, none⟩ = some (.string ⟨#[99]⟩) := (blk_cell (blk_alloc K3.out _) 2).trans rfl
  have HV : Aside0 (Kd.V (Kd.slice 26 k26) 34 (((w3.alloc (.cells #[.int .i64 1, .slice none 0 0, .string ⟨#[97]⟩, .int .i64 3, .slice none 0 0, .string ⟨#[99]⟩] 26)).alloc (.cells #[.int .i64 1, .slice none 0 0, .string ⟨#[97]⟩, .int .i64 2, .slice none 0 0, .string ⟨#[98]⟩, .int .i64 2, .slice none 0 0, .string ⟨#[98]⟩] 26)).alloc (.cells #[.slice (some ⟨w3.heap.size, 0, none⟩) 2 2, .slice (some ⟨w3.heap.size + 1, 0, none⟩) 3 3] 34)) (((w3.alloc (.cells #[.int .i64 1, .slice none 0 0, .string ⟨#[97]⟩, .int .i64 3, .slice none 0 0, .string ⟨#[99]⟩] 26)).alloc (.cells #[.int .i64 1, .slice none 0 0, .string ⟨#[97]⟩, .int .i64 2, .slice none 0 0, .string ⟨#[98]⟩, .int .i64 2, .slice none 0 0, .string ⟨#[98]⟩] 26)).alloc (.cells #[.slice (some ⟨w3.heap.size, 0, none⟩) 2 2, .slice (some ⟨w3.heap.size + 1, 0, none⟩) 3 3] 34)).heap.size (fun _ => True) (.slice (some ⟨w3.heap.size + 1 + 1, 0, none⟩) 2 2) [[archivistlaw16_examples.a, archivistlaw16_examples.c], [archivistlaw16_examples.a, archivistlaw16_examples.b, archivistlaw16_examples.b]]) := ⟨archivistlaw16_examples.two w3 [archivistlaw16_examples.a, archivistlaw16_examples.c] [archivistlaw16_examples.a, archivistlaw16_examples.b, archivistlaw16_examples.b] (by simp [archivistlaw16_examples.a, archivistlaw16_examples.b, archivistlaw16_examples.c]) (by simp [archivistlaw16_examples.a, archivistlaw16_examples.b, archivistlaw16_examples.c]) (by decide) (by decide) rfl rfl rfl⟩
  have HA := Aside0.mk (merge_All.calls 0 true 9 (fun _ => True) _ 2 [[archivistlaw16_examples.a, archivistlaw16_examples.c], [archivistlaw16_examples.a, archivistlaw16_examples.b, archivistlaw16_examples.b]] _ _ _ HV.out archivistlaw16_examples.all1)
  rw [show ([[archivistlaw16_examples.a, archivistlaw16_examples.c], [archivistlaw16_examples.a, archivistlaw16_examples.b, archivistlaw16_examples.b]] : List (List S26)).length = 2 from rfl] at HA
  have HW := Aside0.mk (below_alloc (below_alloc (below_alloc (Below.refl w3.heap.size w3) (.cells #[.int .i64 1, .slice none 0 0, .string ⟨#[97]⟩, .int .i64 3, .slice none 0 0, .string ⟨#[99]⟩] 26)) (.cells #[.int .i64 1, .slice none 0 0, .string ⟨#[97]⟩, .int .i64 2, .slice none 0 0, .string ⟨#[98]⟩, .int .i64 2, .slice none 0 0, .string ⟨#[98]⟩] 26)) (.cells #[.slice (some ⟨w3.heap.size, 0, none⟩) 2 2, .slice (some ⟨w3.heap.size + 1, 0, none⟩) 3 3] 34))
  go_upto_region 5 with (go_at_call 12; (with_reducible refine HA.out.mono ?_); rintro e w4 ⟨v1, rfl, hN, hB⟩; have N1 := Aside0.mk hN; have HX := Aside0.mk (below_step HW.out hB); clear hN hB)
  clear HV HA HW
  clear pa0 pa1 pa2 pb0 pb1 pb2 pc0 pc1 pc2 qa0 qa1 qa2 qb0 qb1 qb2 qc0 qc1 qc2
  have n1_ := Aside0.mk (blk_below K1.out HX.out)
  have n2_ := Aside0.mk (blk_below K2.out HX.out)
  have n3_ := Aside0.mk (blk_below K3.out HX.out)
  have n4_ := Aside0.mk (below_step HB.out HX.out)
  clear K1 K2 K3 HB  HX
  have K1 := n1_
  have K2 := n2_
  have K3 := n3_
  have HB := n4_
  clear n1_ n2_ n3_ n4_ 
  have pa0 : w4.cell? ⟨g1, 0, none⟩ = some (.int .i64 1) := (blk_cell K1.out 0).trans rfl
  have pa1 : w4.cell? ⟨g1, 1, none⟩ = some (.slice none 0 0) := (blk_cell K1.out 1).trans rfl
  have pa2 : w4.cell? ⟨g1, 2, none⟩ = some (.string ⟨#[97]⟩) := (blk_cell K1.out 2).trans rfl
  have pb0 : w4.cell? ⟨g2, 0, none⟩ = some (.int .i64 2) := (blk_cell K2.out 0).trans rfl
  have pb1 : w4.cell? ⟨g2, 1, none⟩ = some (.slice none 0 0) := (blk_cell K2.out 1).trans rfl
  have pb2 : w4.cell? ⟨g2, 2, none⟩ = some (.string ⟨#[98]⟩) := (blk_cell K2.out 2).trans rfl
  have pc0 : w4.cell? ⟨g3, 0, none⟩ = some (.int .i64 3) := (blk_cell K3.out 0).trans rfl
  have pc1 : w4.cell? ⟨g3, 1, none⟩ = some (.slice none 0 0) := (blk_cell K3.out 1).trans rfl
  have pc2 : w4.cell? ⟨g3, 2, none⟩ = some (.string ⟨#[99]⟩) := (blk_cell K3.out 2).trans rfl
  have qa0 : (w4.alloc (.cells #[.int .i64 3, .slice none 0 0, .string ⟨#[99]⟩, .int .i64 1, .slice none 0 0, .string ⟨#[97]⟩] 26)).cell? ⟨g1, 0, none⟩ = some (.int .i64 1) := (blk_cell (blk_alloc K1.out _) 0).trans rfl
  have qa1 : (w4.alloc (.cells #[.int .i64 3, .slice none 0 0, .string ⟨#[99]⟩, .int .i64 1, .slice none 0 0, .string ⟨#[97]⟩] 26)).cell? ⟨g1, 1, none⟩ = some (.slice none 0 0) := (blk_cell (blk_alloc K1.out _) 1).trans rfl
  have qa2 : (w4.alloc (.cells #[.int .i64 3, .slice none 0 0, .string ⟨#[99]⟩, .int .i64 1, .slice none 0 0, .string ⟨#[97]⟩] 26)).cell? ⟨g1, 2, none⟩ = some (.string ⟨#[97]⟩) := (blk_cell (blk_alloc K1.out _) 2).trans rfl
  have qb0 : (w4.alloc (.cells #[.int .i64 3, .slice none 0 0, .string ⟨#[99]⟩, .int .i64 1, .slice none 0 0, .string ⟨#[97]⟩] 26)).cell? ⟨g2, 0, none⟩ = some (.int .i64 2) := (blk_cell (blk_alloc K2.out _) 0).trans rfl
  have qb1 : (w4.alloc (.cells #[.int .i64 3, .slice none 0 0, .string ⟨#[99]⟩, .int .i64 1, .slice none 0 0, .string ⟨#[97]⟩] 26)).cell? ⟨g2, 1, none⟩ = some (.slice none 0 0) := (blk_cell (blk_alloc K2.out _) 1).trans rfl
  have qb2 : (w4.alloc (.cells #[.int .i64 3, .slice none 0 0, .string ⟨#[99]⟩, .int .i64 1, .slice none 0 0, .string ⟨#[97]⟩] 26)).cell? ⟨g2, 2, none⟩ = some (.string ⟨#[98]⟩) := (blk_cell (blk_alloc K2.out _) 2).trans rfl
  have qc0 : (w4.alloc (.cells #[.int .i64 3, .slice none 0 0, .string ⟨#[99]⟩, .int .i64 1, .slice none 0 0, .string ⟨#[97]⟩] 26)).cell? ⟨g3, 0, none⟩ = some (.int .i64 3) := (blk_cell (blk_alloc K3.out _) 0).trans rfl
  have qc1 : (w4.alloc (.cells #[.int .i64 3, .slice none 0 0, .string ⟨#[99]⟩, .int .i64 1, .slice none 0 0, .string ⟨#[97]⟩] 26)).cell? ⟨g3, 1, none⟩ = some (.slice none 0 0) := (blk_cell (blk_alloc K3.out _) 1).trans rfl
  have qc2 : (w4.alloc (.cells #[.int .i64 3, .slice none 0 0, .string ⟨#[99]⟩, .int .i64 1, .slice none 0 0, .string ⟨#[97]⟩] 26)).cell? ⟨g3, 2, none⟩ = some (.string ⟨#[99]⟩) := (blk_cell (blk_alloc K3.out _) 2).trans rfl
  have HV : Aside0 (Kd.V (Kd.slice 26 k26) 34 (((w4.alloc (.cells #[.int .i64 3, .slice none 0 0, .string ⟨#[99]⟩, .int .i64 1, .slice none 0 0, .string ⟨#[97]⟩] 26)).alloc (.cells #[.int .i64 2, .slice none 0 0, .string ⟨#[98]⟩] 26)).alloc (.cells #[.slice (some ⟨w4.heap.size, 0, none⟩) 2 2, .slice (some ⟨w4.heap.size + 1, 0, none⟩) 1 1] 34)) (((w4.alloc (.cells #[.int .i64 3, .slice none 0 0, .string ⟨#[99]⟩, .int .i64 1, .slice none 0 0, .string ⟨#[97]⟩] 26)).alloc (.cells #[.int .i64 2, .slice none 0 0, .string ⟨#[98]⟩] 26)).alloc (.cells #[.slice (some ⟨w4.heap.size, 0, none⟩) 2 2, .slice (some ⟨w4.heap.size + 1, 0, none⟩) 1 1] 34)).heap.size (fun _ => True) (.slice (some ⟨w4.heap.size + 1 + 1, 0, none⟩) 2 2) [[archivistlaw16_examples.c, archivistlaw16_examples.a], [archivistlaw16_examples.b]]) := ⟨archivistlaw16_examples.two w4 [archivistlaw16_examples.c, archivistlaw16_examples.a] [archivistlaw16_examples.b] (by simp [archivistlaw16_examples.a, archivistlaw16_examples.b, archivistlaw16_examples.c]) (by simp [archivistlaw16_examples.a, archivistlaw16_examples.b, archivistlaw16_examples.c]) (by decide) (by decide) rfl rfl rfl⟩
  have HA := Aside0.mk (merge_All.calls 0 false 2 (fun _ => True) _ 2 [[archivistlaw16_examples.c, archivistlaw16_examples.a], [archivistlaw16_examples.b]] _ _ _ HV.out archivistlaw16_examples.all2)
  rw [show ([[archivistlaw16_examples.c, archivistlaw16_examples.a], [archivistlaw16_examples.b]] : List (List S26)).length = 2 from rfl] at HA
  have HW := Aside0.mk (below_alloc (below_alloc (below_alloc (Below.refl w4.heap.size w4) (.cells #[.int .i64 3, .slice none 0 0, .string ⟨#[99]⟩, .int .i64 1, .slice none 0 0, .string ⟨#[97]⟩] 26)) (.cells #[.int .i64 2, .slice none 0 0, .string ⟨#[98]⟩] 26)) (.cells #[.slice (some ⟨w4.heap.size, 0, none⟩) 2 2, .slice (some ⟨w4.heap.size + 1, 0, none⟩) 1 1] 34))
  go_upto_region 6 with (go_at_call 12; (with_reducible refine HA.out.mono ?_); rintro e w5 ⟨v2, rfl, hN, hB⟩; have N2 := Aside0.mk hN; have HX := Aside0.mk (below_step HW.out hB); clear hN hB)
  clear HV HA HW
  clear pa0 pa1 pa2 pb0 pb1 pb2 pc0 pc1 pc2 qa0 qa1 qa2 qb0 qb1 qb2 qc0 qc1 qc2
  have n1_ := Aside0.mk (blk_below K1.out HX.out)
  have n2_ := Aside0.mk (blk_below K2.out HX.out)
  have n3_ := Aside0.mk (blk_below K3.out HX.out)
  have n4_ := Aside0.mk (below_step HB.out HX.out)
  have m0_ := Aside0.mk (Kd.N_below N1.out HX.out)
  clear K1 K2 K3 HB N1 HX
  have K1 := n1_
  have K2 := n2_
  have K3 := n3_
  have HB := n4_
  have N1 := m0_
  clear n1_ n2_ n3_ n4_ m0_
  have pa0 : w5.cell? ⟨g1, 0, none⟩ = some (.int .i64 1) := (blk_cell K1.out 0).trans rfl
  have pa1 : w5.cell? ⟨g1, 1, none⟩ = some (.slice none 0 0) := (blk_cell K1.out 1).trans rfl
  have pa2 : w5.cell? ⟨g1, 2, none⟩ = some (.string ⟨#[97]⟩) := (blk_cell K1.out 2).trans rfl
  have pb0 : w5.cell? ⟨g2, 0, none⟩ = some (.int .i64 2) := (blk_cell K2.out 0).trans rfl
  have pb1 : w5.cell? ⟨g2, 1, none⟩ = some (.slice none 0 0) := (blk_cell K2.out 1).trans rfl
  have pb2 : w5.cell? ⟨g2, 2, none⟩ = some (.string ⟨#[98]⟩) := (blk_cell K2.out 2).trans rfl
  have pc0 : w5.cell? ⟨g3, 0, none⟩ = some (.int .i64 3) := (blk_cell K3.out 0).trans rfl
  have pc1 : w5.cell? ⟨g3, 1, none⟩ = some (.slice none 0 0) := (blk_cell K3.out 1).trans rfl
  have pc2 : w5.cell? ⟨g3, 2, none⟩ = some (.string ⟨#[99]⟩) := (blk_cell K3.out 2).trans rfl
  have HV : Aside0 (Kd.V (Kd.slice 26 k26) 34 ((w5.alloc (.cells #[.int .i64 2, .slice none 0 0, .string ⟨#[98]⟩, .int .i64 1, .slice none 0 0, .string ⟨#[97]⟩] 26)).alloc (.cells #[.slice (some ⟨w5.heap.size, 0, none⟩) 2 2] 34)) ((w5.alloc (.cells #[.int .i64 2, .slice none 0 0, .string ⟨#[98]⟩, .int .i64 1, .slice none 0 0, .string ⟨#[97]⟩] 26)).alloc (.cells #[.slice (some ⟨w5.heap.size, 0, none⟩) 2 2] 34)).heap.size (fun _ => True) (.slice (some ⟨w5.heap.size + 1, 0, none⟩) 1 1) [[archivistlaw16_examples.b, archivistlaw16_examples.a]]) := ⟨archivistlaw16_examples.one w5 [archivistlaw16_examples.b, archivistlaw16_examples.a] (by simp [archivistlaw16_examples.a, archivistlaw16_examples.b, archivistlaw16_examples.c]) (by decide) rfl rfl⟩
  have HA := Aside0.mk (merge_All.calls 0 true 9 (fun _ => True) _ 1 [[archivistlaw16_examples.b, archivistlaw16_examples.a]] _ _ _ HV.out archivistlaw16_examples.all3)
  rw [show ([[archivistlaw16_examples.b, archivistlaw16_examples.a]] : List (List S26)).length = 1 from rfl] at HA
  have HW := Aside0.mk (below_alloc (below_alloc (Below.refl w5.heap.size w5) (.cells #[.int .i64 2, .slice none 0 0, .string ⟨#[98]⟩, .int .i64 1, .slice none 0 0, .string ⟨#[97]⟩] 26)) (.cells #[.slice (some ⟨w5.heap.size, 0, none⟩) 2 2] 34))
  go_upto_region 7 with (go_at_call 12; (with_reducible refine HA.out.mono ?_); rintro e w6 ⟨v3, rfl, hN, hB⟩; have HX := Aside0.mk (below_step HW.out hB); clear hN hB)
  clear HV HA HW
  clear pa0 pa1 pa2 pb0 pb1 pb2 pc0 pc1 pc2
  have n1_ := Aside0.mk (blk_below K1.out HX.out)
  have n2_ := Aside0.mk (blk_below K2.out HX.out)
  have n3_ := Aside0.mk (blk_below K3.out HX.out)
  have n4_ := Aside0.mk (below_step HB.out HX.out)
  have m0_ := Aside0.mk (Kd.N_below N1.out HX.out)
  have m1_ := Aside0.mk (Kd.N_below N2.out HX.out)
  clear K1 K2 K3 HB N1 N2
  have K1 := n1_
  have K2 := n2_
  have K3 := n3_
  have HB := n4_
  have N1 := m0_
  have N2 := m1_
  clear n1_ n2_ n3_ n4_ m0_ m1_
  clear HX
  have pa0 : w6.cell? ⟨g1, 0, none⟩ = some (.int .i64 1) := (blk_cell K1.out 0).trans rfl
  have pa1 : w6.cell? ⟨g1, 1, none⟩ = some (.slice none 0 0) := (blk_cell K1.out 1).trans rfl
  have pa2 : w6.cell? ⟨g1, 2, none⟩ = some (.string ⟨#[97]⟩) := (blk_cell K1.out 2).trans rfl
  have pb0 : w6.cell? ⟨g2, 0, none⟩ = some (.int .i64 2) := (blk_cell K2.out 0).trans rfl
  have pb1 : w6.cell? ⟨g2, 1, none⟩ = some (.slice none 0 0) := (blk_cell K2.out 1).trans rfl
  have pb2 : w6.cell? ⟨g2, 2, none⟩ = some (.string ⟨#[98]⟩) := (blk_cell K2.out 2).trans rfl
  have pc0 : w6.cell? ⟨g3, 0, none⟩ = some (.int .i64 3) := (blk_cell K3.out 0).trans rfl
  have pc1 : w6.cell? ⟨g3, 1, none⟩ = some (.slice none 0 0) := (blk_cell K3.out 1).trans rfl
  have pc2 : w6.cell? ⟨g3, 2, none⟩ = some (.string ⟨#[99]⟩) := (blk_cell K3.out 2).trans rfl
  have HV : Aside0 (Kd.V k26 26 (w6.alloc (.cells #[.int .i64 1, .slice none 0 0, .string ⟨#[97]⟩, .int .i64 3, .slice none 0 0, .string ⟨#[99]⟩, .int .i64 2, .slice none 0 0, .string ⟨#[98]⟩] 26)) (w6.alloc (.cells #[.int .i64 1, .slice none 0 0, .string ⟨#[97]⟩, .int .i64 3, .slice none 0 0, .string ⟨#[99]⟩, .int .i64 2, .slice none 0 0, .string ⟨#[98]⟩] 26)).heap.size (fun _ => True) (.slice (some ⟨w6.heap.size, 0, none⟩) [archivistlaw16_examples.a, archivistlaw16_examples.c, archivistlaw16_examples.b].length [archivistlaw16_examples.a, archivistlaw16_examples.c, archivistlaw16_examples.b].length) [archivistlaw16_examples.a, archivistlaw16_examples.c, archivistlaw16_examples.b]) := ⟨archivistlaw16_examples.lst w6 [archivistlaw16_examples.a, archivistlaw16_examples.c, archivistlaw16_examples.b] (by simp [archivistlaw16_examples.a, archivistlaw16_examples.b, archivistlaw16_examples.c]) (by decide) rfl⟩
  have HA := Aside0.mk (merge_First.calls 0 false (fun _ => True) _ _ [archivistlaw16_examples.a, archivistlaw16_examples.c, archivistlaw16_examples.b] _ _ _ _ _ HV.out archivistlaw16_examples.fst1)
  rw [show ([archivistlaw16_examples.a, archivistlaw16_examples.c, archivistlaw16_examples.b] : List S26).length = 3 from rfl] at HA
  have HW := Aside0.mk (below_alloc (Below.refl w6.heap.size w6) (.cells #[.int .i64 1, .slice none 0 0, .string ⟨#[97]⟩, .int .i64 3, .slice none 0 0, .string ⟨#[99]⟩, .int .i64 2, .slice none 0 0, .string ⟨#[98]⟩] 26))
  go_upto_region 8 with (go_at_call 14; (with_reducible refine HA.out.mono ?_); rintro e w7 ⟨v4, rfl, hV, hB⟩; obtain ⟨A4, c4, rfl⟩ := Kd.V_slice hV; have HX := Aside0.mk (below_step HW.out hB); clear hV hB)
  clear HV HA HW
  clear pa0 pa1 pa2 pb0 pb1 pb2 pc0 pc1 pc2
  have n1_ := Aside0.mk (blk_below K1.out HX.out)
  have n2_ := Aside0.mk (blk_below K2.out HX.out)
  have n3_ := Aside0.mk (blk_below K3.out HX.out)
  have n4_ := Aside0.mk (below_step HB.out HX.out)
  have m0_ := Aside0.mk (Kd.N_below N1.out HX.out)
  have m1_ := Aside0.mk (Kd.N_below N2.out HX.out)
  clear K1 K2 K3 HB N1 N2
  have K1 := n1_
  have K2 := n2_
  have K3 := n3_
  have HB := n4_
  have N1 := m0_
  have N2 := m1_
  clear n1_ n2_ n3_ n4_ m0_ m1_
  clear HX
  have K0 := Aside0.mk (blk_new w7 (.cells #[.int .i64 3, .slice A4 0 c4, .string ⟨#[99]⟩] 26))
  have HX := Aside0.mk (below_alloc (Below.refl w7.heap.size w7) (.cells #[.int .i64 3, .slice A4 0 c4, .string ⟨#[99]⟩] 26))
  have n1_ := Aside0.mk (blk_below K1.out HX.out)
  have n2_ := Aside0.mk (blk_below K2.out HX.out)
  have n3_ := Aside0.mk (blk_below K3.out HX.out)
  have n4_ := Aside0.mk (below_step HB.out HX.out)
  have m0_ := Aside0.mk (Kd.N_below N1.out HX.out)
  have m1_ := Aside0.mk (Kd.N_below N2.out HX.out)
  clear K1 K2 K3 HB N1 N2
  have K1 := n1_
  have K2 := n2_
  have K3 := n3_
  have HB := n4_
  have N1 := m0_
  have N2 := m1_
  clear n1_ n2_ n3_ n4_ m0_ m1_
  clear HX
  generalize w7.heap.size = g10 at K0 ⊢
  generalize w7.alloc (.cells #[.int .i64 3, .slice A4 0 c4, .string ⟨#[99]⟩] 26) = w8 at K0 K1 K2 K3 HB N1 N2 ⊢
  have HA := Aside0.mk (merge_First.calls 0 true (fun _ => True) none 0 [] _ _ _ _ w8 (Kd.V_nil _ _ _ _ _) archivistlaw16_examples.fst2)
  rw [show ([] : List S26).length = 0 from rfl] at HA
  go_upto_region 9 with (go_at_call 14; (with_reducible refine HA.out.mono ?_); rintro e w9 ⟨v5, rfl, hV, hB⟩; obtain ⟨A5, c5, rfl⟩ := Kd.V_slice hV; have HX := Aside0.mk hB; clear hV hB)
  clear HA
  have n1_ := Aside0.mk (blk_below K1.out HX.out)
  have n2_ := Aside0.mk (blk_below K2.out HX.out)
  have n3_ := Aside0.mk (blk_below K3.out HX.out)
  have n4_ := Aside0.mk (below_step HB.out HX.out)
  have m0_ := Aside0.mk (Kd.N_below N1.out HX.out)
  have m1_ := Aside0.mk (Kd.N_below N2.out HX.out)
  have m2_ := Aside0.mk (blk_below K0.out HX.out)
  clear K1 K2 K3 HB N1 N2 K0
  have K1 := n1_
  have K2 := n2_
  have K3 := n3_
  have HB := n4_
  have N1 := m0_
  have N2 := m1_
  have K0 := m2_
  clear n1_ n2_ n3_ n4_ m0_ m1_ m2_
  clear HX
  have HX := Aside0.mk (below_alloc (Below.refl w9.heap.size w9) (.cells #[.int .i64 0, .slice A5 0 c5, .string ⟨#[]⟩] 26))
  have n1_ := Aside0.mk (blk_below K1.out HX.out)
  have n2_ := Aside0.mk (blk_below K2.out HX.out)
  have n3_ := Aside0.mk (blk_below K3.out HX.out)
  have n4_ := Aside0.mk (below_step HB.out HX.out)
  have m0_ := Aside0.mk (Kd.N_below N1.out HX.out)
  have m1_ := Aside0.mk (Kd.N_below N2.out HX.out)
  have m2_ := Aside0.mk (blk_below K0.out HX.out)
  clear K1 K2 K3 HB N1 N2 K0
  have K1 := n1_
  have K2 := n2_
  have K3 := n3_
  have HB := n4_
  have N1 := m0_
  have N2 := m1_
  have K0 := m2_
  clear n1_ n2_ n3_ n4_ m0_ m1_ m2_
  clear HX
  generalize w9.alloc (.cells #[.int .i64 0, .slice A5 0 c5, .string ⟨#[]⟩] 26) = w10 at K0 K1 K2 K3 HB N1 N2 ⊢
  have pa0 : w10.cell? ⟨g1, 0, none⟩ = some (.int .i64 1) := (blk_cell K1.out 0).trans rfl
  have pa1 : w10.cell? ⟨g1, 1, none⟩ = some (.slice none 0 0) := (blk_cell K1.out 1).trans rfl
  have pa2 : w10.cell? ⟨g1, 2, none⟩ = some (.string ⟨#[97]⟩) := (blk_cell K1.out 2).trans rfl
  have pb0 : w10.cell? ⟨g2, 0, none⟩ = some (.int .i64 2) := (blk_cell K2.out 0).trans rfl
  have pb1 : w10.cell? ⟨g2, 1, none⟩ = some (.slice none 0 0) := (blk_cell K2.out 1).trans rfl
  have pb2 : w10.cell? ⟨g2, 2, none⟩ = some (.string ⟨#[98]⟩) := (blk_cell K2.out 2).trans rfl
  have pc0 : w10.cell? ⟨g3, 0, none⟩ = some (.int .i64 3) := (blk_cell K3.out 0).trans rfl
  have pc1 : w10.cell? ⟨g3, 1, none⟩ = some (.slice none 0 0) := (blk_cell K3.out 1).trans rfl
  have pc2 : w10.cell? ⟨g3, 2, none⟩ = some (.string ⟨#[99]⟩) := (blk_cell K3.out 2).trans rfl
  have HV : Aside0 (Kd.V k26 26 (w10.alloc (.cells #[.int .i64 1, .slice none 0 0, .string ⟨#[97]⟩, .int .i64 2, .slice none 0 0, .string ⟨#[98]⟩, .int .i64 3, .slice none 0 0, .string ⟨#[99]⟩] 26)) (w10.alloc (.cells #[.int .i64 1, .slice none 0 0, .string ⟨#[97]⟩, .int .i64 2, .slice none 0 0, .string ⟨#[98]⟩, .int .i64 3, .slice none 0 0, .string ⟨#[99]⟩] 26)).heap.size (fun _ => True) (.slice (some ⟨w10.heap.size, 0, none⟩) [archivistlaw16_examples.a, archivistlaw16_examples.b, archivistlaw16_examples.c].length [archivistlaw16_examples.a, archivistlaw16_examples.b, archivistlaw16_examples.c].length) [archivistlaw16_examples.a, archivistlaw16_examples.b, archivistlaw16_examples.c]) := ⟨archivistlaw16_examples.lst w10 [archivistlaw16_examples.a, archivistlaw16_examples.b, archivistlaw16_examples.c] (by simp [archivistlaw16_examples.a, archivistlaw16_examples.b, archivistlaw16_examples.c]) (by decide) rfl⟩
  have HA := Aside0.mk (merge_Upto.calls 30 true 2 none 0 [] ⟨#[98]⟩ (fun _ => True) _ _ [archivistlaw16_examples.a, archivistlaw16_examples.b, archivistlaw16_examples.c] _ _ (Kd.C_nil _ _) (Nat.le_refl _) HV.out archivistlaw16_examples.upto)
  rw [show ([archivistlaw16_examples.a, archivistlaw16_examples.b, archivistlaw16_examples.c] : List S26).length = 3 from rfl, show ([] : List S103).length = 0 from rfl] at HA
  have HW := Aside0.mk (below_alloc (Below.refl w10.heap.size w10) (.cells #[.int .i64 1, .slice none 0 0, .string ⟨#[97]⟩, .int .i64 2, .slice none 0 0, .string ⟨#[98]⟩, .int .i64 3, .slice none 0 0, .string ⟨#[99]⟩] 26))
  go_upto_region 10 with (go_at_call 19; (with_reducible refine HA.out.mono ?_); rintro e w11 ⟨v6, rfl, hN, hB⟩; obtain ⟨A6, c6, rfl⟩ := Kd.N_slice hN; have HX := Aside0.mk (below_step HW.out hB); clear hN hB)
  clear HV HA HW
  clear pa0 pa1 pa2 pb0 pb1 pb2 pc0 pc1 pc2
  have n1_ := Aside0.mk (blk_below K1.out HX.out)
  have n2_ := Aside0.mk (blk_below K2.out HX.out)
  have n3_ := Aside0.mk (blk_below K3.out HX.out)
  have n4_ := Aside0.mk (below_step HB.out HX.out)
  have m0_ := Aside0.mk (Kd.N_below N1.out HX.out)
  have m1_ := Aside0.mk (Kd.N_below N2.out HX.out)
  have m2_ := Aside0.mk (blk_below K0.out HX.out)
  clear K1 K2 K3 HB N1 N2 K0
  have K1 := n1_
  have K2 := n2_
  have K3 := n3_
  have HB := n4_
  have N1 := m0_
  have N2 := m1_
  have K0 := m2_
  clear n1_ n2_ n3_ n4_ m0_ m1_ m2_
  clear HX
  obtain ⟨q1, c1, rfl, _, _, _⟩ := Kd.N_form N1.out (by decide)
  obtain ⟨q2, c2, rfl, _, _, _⟩ := Kd.N_form N2.out (by decide)
  have r1 := (Kd.N_reads' N1.out).2.2
  have r2 := (Kd.N_reads' N2.out).2.2
  have x1 : w11.cell? ⟨q1, 3, none⟩ = some (.int .i64 2) := by
    obtain ⟨ad1, _, _, e, x, _, _, _, _⟩ := at_T26 r1 1 (by decide) (by decide)
    injection e with e
    subst e
    rwa [add_plain] at x
  have x2 : w11.cell? ⟨q2, 0, none⟩ = some (.int .i64 3) := by
    obtain ⟨ad1, _, _, e, x, _, _, _, _⟩ := at_T26 r2 0 (by decide) (by decide)
    injection e with e
    subst e
    rwa [add_plain] at x
  have x3 : w11.cell? ⟨q2, 3, none⟩ = some (.int .i64 2) := by
    obtain ⟨ad1, _, _, e, x, _, _, _, _⟩ := at_T26 r2 1 (by decide) (by decide)
    injection e with e
    subst e
    rwa [add_plain] at x
  have y0 : w11.cell? ⟨g10, 0, none⟩ = some (.int .i64 3) := (blk_cell K0.out 0).trans rfl
  clear r1 r2
  go_wp2
  go_ret
  exact ⟨rfl, HB.out⟩
end Go.Proofs.Ytaehlbbjbeibfaa.X
