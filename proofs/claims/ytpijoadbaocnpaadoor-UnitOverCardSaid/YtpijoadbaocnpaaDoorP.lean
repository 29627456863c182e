/-
  What the checked numbers of chapter 2 come to, for the seat YtpijoadbaocnpaaDoor: sums and products.
-/
import Derived.Test.YtpijoadbaocnpaaDoorX1
import Derived.Test.YtpijoadbaocnpaaDoorX2
import Derived.Test.YtpijoadbaocnpaaDoorX8
import Derived.Test.YtpijoadbaocnpaaDoorB
set_option linter.unusedVariables false
set_option linter.unusedSimpArgs false
namespace Go.Proofs.YtpijoadbaocnpaaDoor.Pure
open Go.RowKit Go.Proofs.YtpijoadbaocnpaaDoor.X Go.Proofs.YtpijoadbaocnpaaDoor.B Go.Proofs.YtpijoadbaocnpaaDoorW.PrintWords Go.Proofs.YtpijoadbaocnpaaDoorW.PrintLast

def in64 (x : Int) : Prop := -9223372036854775808 ≤ x ∧ x ≤ 9223372036854775807
instance (x : Int) : Decidable (in64 x) := inferInstanceAs (Decidable (_ ∧ _))
theorem in64_wf {n : Int} (h : (Lit.int .i64 n).wf = true) : in64 n := by
  simp only [Lit.wf, IntKind.min, IntKind.max, IntKind.signed, IntKind.bits, Bool.and_eq_true, decide_eq_true_eq, if_true] at h
  unfold in64
  omega
theorem wrap_64 {x : Int} (h : in64 x) : wrap64 x = x := wrap_in h.1 h.2
theorem in64_wrap (x : Int) : in64 (wrap64 x) := by unfold in64 wrap64; omega
theorem rd_at (l : List Int) (i : Nat) (h : i < l.length) : rd l (i : Int) = l[i] := by simp [rd, List.getD_eq_getElem?_getD, h]

/-! ### of two -/
theorem add1 {a b : Int} (ha : in64 a) (hb : in64 b) : num_Add_1.f a b = some (wrap64 (a + b), decide (in64 (a + b))) := by
  unfold num_Add_1.f
  have : (decide (wrap64 (a + b) < a) == decide (b < 0)) = decide (in64 (a + b)) := by
    by_cases h : in64 (a + b)
    · rw [wrap_64 h, decide_eq_true h, beq_iff_eq, decide_eq_decide]
      unfold in64 at *
      omega
    · rw [decide_eq_false h, beq_eq_false_iff_ne, Ne, decide_eq_decide]
      unfold in64 at *
      unfold wrap64
      omega
  rw [this]
theorem u64_neg {a : Int} (ha : in64 a) (h : a < 0) : IntKind.u64.wrap (-(IntKind.u64.wrap a)) = -a := by
  unfold in64 at ha
  simp [IntKind.wrap, IntKind.bits, IntKind.signed]
  omega
theorem u64_pos {a : Int} (ha : in64 a) (h : ¬ a < 0) : IntKind.u64.wrap a = a := by
  unfold in64 at ha
  exact Go.IntWalk.u64_in _ (by omega)
def absI (a : Int) : Int := if a < 0 then -a else a
theorem size_ev {a : Int} (ha : in64 a) : num_size.f a = some (absI a) := by
  unfold num_size.f absI
  by_cases h : a < 0
  · rw [if_pos h, if_pos h, u64_neg ha h]
  · rw [if_neg h, if_neg h, u64_pos ha h]
theorem refSize_ev {a : Int} (ha : in64 a) : archivistref02_size.f a = some (absI a) := by
  unfold archivistref02_size.f absI
  by_cases h : a < 0
  · rw [if_pos h, if_pos h, u64_neg ha h]
  · rw [if_neg h, if_neg h, u64_pos ha h]
theorem abs_le {a : Int} (ha : in64 a) : 0 ≤ absI a ∧ absI a ≤ 9223372036854775808 := by
  unfold in64 at ha
  unfold absI
  split <;> omega
theorem abs_mul (a b : Int) : (((decide (a < 0)) != (decide (b < 0))) = true → absI a * absI b = -(a * b)) ∧ (((decide (a < 0)) != (decide (b < 0))) = false → absI a * absI b = a * b) := by
  unfold absI
  by_cases h1 : a < 0 <;> by_cases h2 : b < 0 <;> simp [h1, h2, Int.neg_mul, Int.mul_neg]
theorem mul64 {x y : Int} (hx : 0 ≤ x ∧ x ≤ 9223372036854775808) (hy : 0 ≤ y ∧ y ≤ 9223372036854775808) : bits_Mul64.f x y = some (x * y / 18446744073709551616, x * y % 18446744073709551616) := by
  unfold bits_Mul64.f
  rw [if_pos (by omega)]
theorem times_ev {a b : Int} (ha : in64 a) (hb : in64 b) : ∃ v, num_times.f a b = some (v, decide (in64 (a * b))) ∧ (in64 (a * b) → v = a * b) := by
  unfold num_times.f
  rw [size_ev ha, size_ev hb]
  simp only [Option.bind_some]
  rw [mul64 (abs_le ha) (abs_le hb)]
  simp only [Option.bind_some]
  have hp : 0 ≤ absI a * absI b := Int.mul_nonneg (abs_le ha).1 (abs_le hb).1
  obtain ⟨m1, m2⟩ := abs_mul a b
  cases hs : ((decide (a < 0)) != (decide (b < 0))) with
  | true =>
    have e := m1 hs
    rw [if_pos rfl]
    generalize absI a * absI b = p at *
    have e2 : a * b = -p := by omega
    rw [e2]
    by_cases h : p / 18446744073709551616 = 0
    · rw [if_pos h]
      refine ⟨_, by rw [show decide (p % 18446744073709551616 ≤ 9223372036854775808) = decide (in64 (-p)) from by rw [decide_eq_decide]; unfold in64; omega], fun hi => ?_⟩
      unfold in64 at hi
      unfold wrap64
      omega
    · rw [if_neg h]
      refine ⟨_, by rw [show false = decide (in64 (-p)) from by rw [eq_comm, decide_eq_false_iff_not]; unfold in64; omega], fun hi => ?_⟩
      unfold in64 at hi
      omega
  | false =>
    have e := m2 hs
    rw [if_neg (by simp)]
    generalize absI a * absI b = p at *
    rw [← e]
    by_cases h : p / 18446744073709551616 = 0
    · rw [if_pos h]
      refine ⟨_, by rw [show decide (p % 18446744073709551616 < 9223372036854775808) = decide (in64 p) from by rw [decide_eq_decide]; unfold in64; omega], fun hi => ?_⟩
      unfold in64 at hi
      unfold wrap64
      omega
    · rw [if_neg h]
      refine ⟨_, by rw [show false = decide (in64 p) from by rw [eq_comm, decide_eq_false_iff_not]; unfold in64; omega], fun hi => ?_⟩
      unfold in64 at hi
      omega
theorem refSum {a b : Int} (ha : in64 a) (hb : in64 b) : archivistref02_Sum.f a b = some (if in64 (a + b) then (a + b, true) else (0, false)) := by
  unfold archivistref02_Sum.f
  by_cases h : in64 (a + b)
  · rw [if_pos h, wrap_64 h]
    unfold in64 at ha hb h
    have w1 : wrap64 (9223372036854775807 - b) = 9223372036854775807 - b ∨ b < 0 := by unfold wrap64; omega
    have w2 : wrap64 (-9223372036854775808 - b) = -9223372036854775808 - b ∨ 0 < b := by unfold wrap64; omega
    by_cases h1 : b > 0
    · rw [if_pos h1, if_neg (by omega), if_neg (by omega)]
    · rw [if_neg h1]
      by_cases h2 : b < 0
      · rw [if_pos h2, if_neg (by omega)]
      · rw [if_neg h2]
  · rw [if_neg h]
    unfold in64 at ha hb h
    have w1 : wrap64 (9223372036854775807 - b) = 9223372036854775807 - b ∨ b < 0 := by unfold wrap64; omega
    have w2 : wrap64 (-9223372036854775808 - b) = -9223372036854775808 - b ∨ 0 < b := by unfold wrap64; omega
    by_cases h1 : b > 0
    · rw [if_pos h1, if_pos (by omega)]
    · rw [if_neg h1, if_pos (by omega), if_pos (by omega)]
def subP (a b : Int) : Int × Bool := if in64 (a - b) then (a - b, true) else (0, false)
def mulP2 (a b : Int) : Int × Bool := if in64 (a * b) then (a * b, true) else (0, false)
theorem refTimes {a b : Int} (ha : in64 a) (hb : in64 b) : Ev (fun k => archivistref02_Times.f k a b) (mulP2 a b) := by
  unfold archivistref02_Times.f
  rw [refSize_ev ha, refSize_ev hb]
  refine Ev.one (Ev.one ?_)
  have hp : 0 ≤ absI a * absI b := Int.mul_nonneg (abs_le ha).1 (abs_le hb).1
  have main : ∀ z : Bool, (z = true → a * b = 0) → (z = false → absI b ≠ 0) → Ev (fun k => archivistref02_Times.j0 k a b (absI a) (absI b) z) (mulP2 a b) := by
    intro z h1 h2
    refine Ev.step (fun _ => rfl) ?_
    simp only [archivistref02_Times.j0]
    cases z with
    | true =>
      refine Ev.pos rfl (Ev.ret ?_)
      unfold mulP2
      rw [h1 rfl]
      rfl
    | false =>
      refine Ev.neg (by simp) ?_
      have hb0 : 0 < absI b := by have := h2 rfl; have := (abs_le hb).1; omega
      obtain ⟨m1, m2⟩ := abs_mul a b
      have key : ∀ most : Int, 0 ≤ most → most ≤ 9223372036854775808 → (absI a > IntKind.u64.wrap (most / absI b) ↔ most < absI a * absI b) := by
        intro most hm hM
        have hd : 0 ≤ most / absI b := Int.ediv_nonneg hm (by omega)
        have hd2 : most / absI b ≤ most := Int.ediv_le_self _ hm
        rw [Go.IntWalk.u64_in _ (by omega), gt_iff_lt, Int.ediv_lt_iff_lt_mul hb0]
      cases hs : ((decide (a < 0)) != (decide (b < 0))) with
      | true =>
        have e := m1 hs
        refine Ev.pos rfl (Ev.neg (by omega) ?_)
        have k1 := key 9223372036854775808 (by omega) (by omega)
        generalize absI a * absI b = p at *
        by_cases h : absI a > IntKind.u64.wrap ((9223372036854775808 : Int) / absI b)
        · refine Ev.pos h (Ev.ret ?_)
          have := k1.1 h
          unfold mulP2
          rw [if_neg (by unfold in64; omega)]
        · refine Ev.neg h (Ev.ret ?_)
          have : ¬ _ := fun z => h (k1.2 z)
          unfold mulP2
          have hi : in64 (a * b) := by unfold in64; omega
          rw [if_pos hi, wrap_64 hi]
      | false =>
        have e := m2 hs
        refine Ev.neg (by simp) (Ev.neg (by omega) ?_)
        have k1 := key 9223372036854775807 (by omega) (by omega)
        generalize absI a * absI b = p at *
        by_cases h : absI a > IntKind.u64.wrap ((9223372036854775807 : Int) / absI b)
        · refine Ev.pos h (Ev.ret ?_)
          have := k1.1 h
          unfold mulP2
          rw [if_neg (by unfold in64; omega)]
        · refine Ev.neg h (Ev.ret ?_)
          have : ¬ _ := fun z => h (k1.2 z)
          unfold mulP2
          have hi : in64 (a * b) := by unfold in64; omega
          rw [if_pos hi, wrap_64 hi]
  have z0 : ∀ {x : Int}, absI x = 0 → x = 0 := fun {x} h => by unfold absI at h; split at h <;> omega
  by_cases h : absI a = 0
  · refine Ev.pos h (main true (fun _ => by rw [z0 h, Int.zero_mul]) (fun h => by cases h))
  · refine Ev.neg h (main _ (fun h => by rw [z0 (eq_of_beq h), Int.mul_zero]) (fun h => by simpa using h))

/-! ### of many -/
def foldP (g : Int → Int → Int) : Int → List Int → Int × Bool
  | n, [] => (n, true)
  | n, x :: l => if in64 (g n x) then foldP g (g n x) l else (0, false)
theorem foldP_in (g : Int → Int → Int) : ∀ (l : List Int) (n : Int), in64 n → in64 (foldP g n l).1
  | [], n, h => h
  | x :: l, n, h => by
    unfold foldP
    split
    · rename_i h1
      exact foldP_in g l _ h1
    · exact ⟨by decide, by decide⟩
theorem foldP_false (g : Int → Int → Int) : ∀ (l : List Int) (n : Int), (foldP g n l).2 = false → foldP g n l = (0, false)
  | [], n, h => by simp [foldP] at h
  | x :: l, n, h => by
    unfold foldP at h ⊢
    split
    · rename_i h1
      rw [if_pos h1] at h
      exact foldP_false g l _ h
    · rfl
theorem foldP_snoc (g : Int → Int → Int) : ∀ (l : List Int) (n x : Int), foldP g n (l ++ [x]) = if (foldP g n l).2 = true then (if in64 (g (foldP g n l).1 x) then (g (foldP g n l).1 x, true) else (0, false)) else (0, false)
  | [], n, x => by
    rw [if_pos (show (foldP g n []).2 = true from rfl)]
    rfl
  | y :: l, n, x => by
    simp only [List.cons_append, foldP]
    split
    · exact foldP_snoc g l _ x
    · simp
theorem loop_ev (g : Int → Int → Int) (l : List Int) (L : Int → Nat → Nat → Option (Int × Bool))
    (hend : ∀ n, Ev (L n l.length) (n, true))
    (hstep : ∀ n i (h : i < l.length) r, in64 n → (in64 (g n l[i]) → Ev (L (g n l[i]) (i + 1)) r) → (¬ in64 (g n l[i]) → r = (0, false)) → Ev (L n i) r) :
    ∀ d i n, l.length - i = d → i ≤ l.length → in64 n → Ev (L n i) (foldP g n (l.drop i)) := by
  intro d
  induction d with
  | zero =>
    intro i n hd hi hn
    obtain rfl : i = l.length := by omega
    rw [List.drop_length]
    exact hend n
  | succ d ih =>
    intro i n hd hi hn
    have h : i < l.length := by omega
    rw [List.drop_eq_getElem_cons h]
    refine hstep n i h _ hn (fun h1 => ?_) (fun h1 => ?_)
    · unfold foldP
      rw [if_pos h1]
      exact ih (i + 1) _ (by omega) (by omega) h1
    · unfold foldP
      rw [if_neg h1]
section
variable (l : List Int) (hl : ∀ x ∈ l, in64 x) (hs : l.length < 4611686018427387904)
include hl hs
theorem numAdd_ev : Ev (fun k => num_Add.f k l) (foldP (· + ·) 0 l) := by
  unfold num_Add.f num_fold_num_Add_1.f
  refine Ev.bind ?_ (Ev.now _)
  refine loop_ev (· + ·) l (fun n i k => num_fold_num_Add_1.l0 k n l (l.length : Int) (i : Int)) (fun n => ?_) (fun n i h r hn hr hf => ?_) l.length 0 0 (by omega) (by omega) ⟨by decide, by decide⟩
  · refine Ev.step (fun _ => rfl) ?_
    simp only [num_fold_num_Add_1.l0]
    exact Ev.neg (by omega) (Ev.now _)
  · refine Ev.step (fun _ => rfl) ?_
    simp only [num_fold_num_Add_1.l0]
    refine Ev.pos (by omega) (Ev.pos (by omega) (Ev.pos (by omega) ?_))
    rw [rd_at l i h, add1 hn (hl _ (List.getElem_mem h))]
    refine Ev.one ?_
    by_cases h1 : in64 (n + l[i])
    · refine Ev.pos (decide_eq_true h1) ?_
      rw [w1 i (by omega), wrap_64 h1]
      exact hr h1
    · exact Ev.neg (by simpa using h1) (Ev.ret (hf h1).symm)
theorem numMul_ev : Ev (fun k => num_Mul.f k l) (foldP (· * ·) 1 l) := by
  unfold num_Mul.f num_fold_num_times.f
  refine Ev.bind ?_ (Ev.now _)
  refine loop_ev (· * ·) l (fun n i k => num_fold_num_times.l0 k n l (l.length : Int) (i : Int)) (fun n => ?_) (fun n i h r hn hr hf => ?_) l.length 0 1 (by omega) (by omega) ⟨by decide, by decide⟩
  · refine Ev.step (fun _ => rfl) ?_
    simp only [num_fold_num_times.l0]
    exact Ev.neg (by omega) (Ev.now _)
  · refine Ev.step (fun _ => rfl) ?_
    simp only [num_fold_num_times.l0]
    refine Ev.pos (by omega) (Ev.pos (by omega) (Ev.pos (by omega) ?_))
    obtain ⟨v, hv, hv2⟩ := times_ev hn (hl _ (List.getElem_mem h))
    rw [rd_at l i h, hv]
    refine Ev.one ?_
    by_cases h1 : in64 (n * l[i])
    · refine Ev.pos (decide_eq_true h1) ?_
      rw [w1 i (by omega), hv2 h1]
      exact hr h1
    · exact Ev.neg (by simpa using h1) (Ev.ret (hf h1).symm)
end
end Go.Proofs.YtpijoadbaocnpaaDoor.Pure
