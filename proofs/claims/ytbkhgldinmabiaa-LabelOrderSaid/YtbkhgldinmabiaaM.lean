/-
  How two sets of labels stand, in plain lists, for the seat Ytbkhgldinmabiaa.
-/
import Derived.Test.YtbkhgldinmabiaaX10
import Derived.Test.YtbkhgldinmabiaaX9
import Derived.Test.YtbkhgldinmabiaaD
set_option linter.unusedVariables false
set_option linter.unusedSimpArgs false
namespace Go.Proofs.Ytbkhgldinmabiaa.B
open Go.RowKit Go.Proofs.Ytbkhgldinmabiaa.X Go.Proofs.YtbkhgldinmabiaaW.PrintWords Go.Proofs.YtbkhgldinmabiaaW.PrintLast

def cB (a b : ByteArray) : Int := Lib.compareBytes (by_ a) (by_ b)
/-- how two of one kind stand: one of three, none just for the same, the other way round the contrary; it does not go round -/
structure Stands {α : Type} (c : α → α → Int) : Prop where
  one : ∀ a b, c a b = -1 ∨ c a b = 0 ∨ c a b = 1
  eq : ∀ a b, c a b = 0 ↔ a = b
  flip : ∀ a b, c a b = - c b a
  round : ∀ a b d, c a b = -1 → c b d = -1 → c a d = -1
theorem cB_stands : Stands cB where
  one a b := by unfold cB; rcases cmpB (by_ a) (by_ b) with h | h | h <;> rw [h.2] <;> simp
  eq a b := by
    unfold cB
    rcases cmpB (by_ a) (by_ b) with h | h | h
    · rw [h.2]
      exact ⟨fun h => by omega, fun e => by subst e; exact absurd h.1 (nl_irrefl a)⟩
    · rw [h.2]
      exact ⟨fun _ => by_ext h.1, fun _ => rfl⟩
    · rw [h.2]
      exact ⟨fun h => by omega, fun e => by subst e; exact absurd h.1 (nl_irrefl a)⟩
  flip a b := by
    unfold cB
    rcases cmpB (by_ a) (by_ b) with h | h | h <;> rcases cmpB (by_ b) (by_ a) with h2 | h2 | h2
    · exact absurd h2.1 (nl_asym (a := a) (b := b) h.1)
    · exact absurd h2.1.symm (x_less_ne h.1)
    · simp [h.2, h2.2]
    · exact absurd h.1.symm (x_less_ne h2.1)
    · simp [h.2, h2.2]
    · exact absurd h.1 (x_less_ne h2.1)
    · simp [h.2, h2.2]
    · exact absurd h2.1 (x_less_ne h.1)
    · exact absurd h2.1 (nl_asym (a := b) (b := a) h.1)
  round a b d h1 h2 := by
    unfold cB at h1 h2 ⊢
    have l1 : nl a b := by
      rcases cmpB (by_ a) (by_ b) with h | h | h
      · exact h.1
      · rw [h.2] at h1; cases h1
      · rw [h.2] at h1; cases h1
    have l2 : nl b d := by
      rcases cmpB (by_ b) (by_ d) with h | h | h
      · exact h.1
      · rw [h.2] at h2; cases h2
      · rw [h.2] at h2; cases h2
    rcases cmpB (by_ a) (by_ d) with h | h | h
    · exact h.2
    · exact absurd h.1 (x_less_ne (nl_trans l1 l2))
    · exact absurd h.1 (nl_asym (nl_trans l1 l2))
def cL (x y : Lab) : Int := if cB x.f0 y.f0 = 0 then cB x.f1 y.f1 else cB x.f0 y.f0
theorem cL_stands : Stands cL where
  one a b := by
    unfold cL
    split
    · exact cB_stands.one _ _
    · exact cB_stands.one _ _
  eq a b := by
    unfold cL
    have e0 := cB_stands.eq a.f0 b.f0
    have e1 := cB_stands.eq a.f1 b.f1
    by_cases h : cB a.f0 b.f0 = 0
    · rw [if_pos h]
      refine ⟨fun h2 => ?_, fun e => by rw [e] at e1 ⊢; exact e1.2 rfl⟩
      have h3 := e0.1 h
      have h4 := e1.1 h2
      cases a
      cases b
      simp only at h3 h4
      rw [h3, h4]
    · rw [if_neg h]
      exact ⟨fun h2 => absurd h2 h, fun e => by rw [e] at e0 ⊢; exact e0.2 rfl⟩
  flip a b := by
    unfold cL
    have f0 := cB_stands.flip a.f0 b.f0
    have f1 := cB_stands.flip a.f1 b.f1
    by_cases h : cB a.f0 b.f0 = 0
    · rw [if_pos h, if_pos (by omega), f1]
    · rw [if_neg h, if_neg (by omega), f0]
  round a b d h1 h2 := by
    unfold cL at h1 h2 ⊢
    by_cases g1 : cB a.f0 b.f0 = 0
    · rw [if_pos g1] at h1
      rw [(cB_stands.eq _ _).1 g1]
      by_cases g2 : cB b.f0 d.f0 = 0
      · rw [if_pos g2] at h2 ⊢
        exact cB_stands.round _ _ _ h1 h2
      · rw [if_neg g2] at h2 ⊢
        exact h2
    · rw [if_neg g1] at h1
      by_cases g2 : cB b.f0 d.f0 = 0
      · rw [← (cB_stands.eq _ _).1 g2, if_neg g1]
        exact h1
      · rw [if_neg g2] at h2
        have := cB_stands.round _ _ _ h1 h2
        rw [this]
        rfl
def ordL : List Lab → List Lab → Int
  | [], [] => 0
  | [], _ :: _ => -1
  | _ :: _, [] => 1
  | x :: a, y :: b => if cL x y = 0 then ordL a b else cL x y
theorem ordL_one : ∀ a b, ordL a b = -1 ∨ ordL a b = 0 ∨ ordL a b = 1
  | [], [] => by simp [ordL]
  | [], _ :: _ => by simp [ordL]
  | _ :: _, [] => by simp [ordL]
  | x :: a, y :: b => by
    unfold ordL
    split
    · exact ordL_one a b
    · exact cL_stands.one x y
theorem ordL_eq : ∀ a b, ordL a b = 0 ↔ a = b
  | [], [] => by simp [ordL]
  | [], _ :: _ => by simp [ordL]
  | _ :: _, [] => by simp [ordL]
  | x :: a, y :: b => by
    unfold ordL
    by_cases h : cL x y = 0
    · rw [if_pos h, ordL_eq a b, (cL_stands.eq x y).1 h]
      exact ⟨fun h => by rw [h], fun h => by injection h⟩
    · rw [if_neg h]
      exact ⟨fun h2 => absurd h2 h, fun e => by injection e with e1 e2; exact absurd ((cL_stands.eq x y).2 e1) h⟩
theorem ordL_flip : ∀ a b, ordL a b = - ordL b a
  | [], [] => by simp [ordL]
  | [], _ :: _ => by simp [ordL]
  | _ :: _, [] => by simp [ordL]
  | x :: a, y :: b => by
    unfold ordL
    have f := cL_stands.flip x y
    by_cases h : cL x y = 0
    · rw [if_pos h, if_pos (by omega), ordL_flip a b]
    · rw [if_neg h, if_neg (by omega), f]
theorem ordL_round : ∀ a b d, ordL a b = -1 → ordL b d = -1 → ordL a d = -1
  | [], [], d, h, _ => by simp [ordL] at h
  | [], _ :: _, [], _, h => by simp [ordL] at h
  | [], _ :: _, _ :: _, _, _ => by simp [ordL]
  | _ :: _, [], d, h, _ => by simp [ordL] at h
  | _ :: _, _ :: _, [], _, h => by simp [ordL] at h
  | x :: a, y :: b, z :: d, h1, h2 => by
    unfold ordL at h1 h2 ⊢
    by_cases g1 : cL x y = 0
    · rw [if_pos g1] at h1
      rw [(cL_stands.eq _ _).1 g1]
      by_cases g2 : cL y z = 0
      · rw [if_pos g2] at h2 ⊢
        exact ordL_round a b d h1 h2
      · rw [if_neg g2] at h2 ⊢
        exact h2
    · rw [if_neg g1] at h1
      by_cases g2 : cL y z = 0
      · rw [← (cL_stands.eq _ _).1 g2, if_neg g1]
        exact h1
      · rw [if_neg g2] at h2
        have := cL_stands.round _ _ _ h1 h2
        rw [this]
        rfl
theorem ordL_le {a b d : List Lab} (h1 : ordL a b ≤ 0) (h2 : ordL b d ≤ 0) : ordL a d ≤ 0 := by
  rcases ordL_one a b with g1 | g1 | g1
  · rcases ordL_one b d with g2 | g2 | g2
    · rw [ordL_round a b d g1 g2]
      omega
    · rw [← (ordL_eq b d).1 g2]
      exact h1
    · omega
  · rw [(ordL_eq a b).1 g1]
    exact h2
  · omega
/-! ### the code's -/
theorem or_ev (a b : Int) : Ev (fun k => cmp_Or_int.f k [a, b]) (if a = 0 then b else a) := by
  unfold cmp_Or_int.f
  refine Ev.step (fun _ => rfl) ?_
  simp only [cmp_Or_int.l0]
  refine Ev.pos (by simp) (Ev.pos (by decide) (Ev.pos (by simp) ?_))
  have r0 : rd [a, b] 0 = a := rfl
  rw [r0]
  by_cases h : a = 0
  · rw [if_pos h]
    refine Ev.pos h (Ev.step (fun _ => rfl) ?_)
    simp only [cmp_Or_int.l0]
    rw [show wrap64 (0 + 1) = 1 by rw [wrap_in] <;> omega]
    refine Ev.pos (by simp) (Ev.pos (by decide) (Ev.pos (by simp) ?_))
    have r1 : rd [a, b] 1 = b := rfl
    rw [r1]
    by_cases h2 : b = 0
    · rw [h2]
      refine Ev.pos rfl (Ev.step (fun _ => rfl) ?_)
      simp only [cmp_Or_int.l0]
      rw [show wrap64 (1 + 1) = 2 by rw [wrap_in] <;> omega]
      exact Ev.neg (by simp) (Ev.now _)
    · exact Ev.neg h2 (Ev.now _)
  · rw [if_neg h]
    exact Ev.neg h (Ev.now _)
theorem order1_ev (x y : Lab) : Ev (fun k => label_Order_1.f k x.f0 x.f1 y.f0 y.f1) (cL x y) := by
  unfold label_Order_1.f label_names.f strings_Compare.f
  exact Ev.bind (Ev.now _) (Ev.one (Ev.bind (or_ev (cB x.f0 y.f0) (cB x.f1 y.f1)) (Ev.now _)))
theorem order_loop (l r : List Lab) (hl : l.length ≤ 1000000) : ∀ (d i : Nat), l.length - i = d → i ≤ l.length → i ≤ r.length →
    Ev (fun k => label_Pair_label_Order_1.l0 k l r l (l.length : Int) (i : Int)) (ordL (l.drop i) (r.drop i)) := by
  intro d
  induction d with
  | zero =>
    intro i hd hi hir
    refine Ev.step (fun _ => rfl) ?_
    simp only [label_Pair_label_Order_1.l0]
    rw [List.drop_of_length_le (by omega)]
    refine Ev.neg (by omega) ?_
    by_cases h : l.length < r.length
    · rw [List.drop_eq_getElem_cons (show i < r.length by omega)]
      exact Ev.pos (by omega) (Ev.now _)
    · rw [List.drop_of_length_le (show r.length ≤ i by omega)]
      exact Ev.neg (by omega) (Ev.now _)
  | succ d ih =>
    intro i hd hi hir
    have hlt : i < l.length := by omega
    refine Ev.step (fun _ => rfl) ?_
    simp only [label_Pair_label_Order_1.l0]
    rw [List.drop_eq_getElem_cons hlt]
    refine Ev.pos (by omega) (Ev.pos (by omega) (Ev.pos (by omega) ?_))
    by_cases h : i < r.length
    · have ih' := ih (i + 1) (by omega) (by omega) (by omega)
      rw [List.drop_eq_getElem_cons h, rdLab l i hlt, rdLab r i h, w1 i (by omega)]
      refine Ev.neg (by omega) (Ev.pos (by omega) (Ev.bind (order1_ev l[i] r[i]) ?_))
      unfold ordL
      by_cases h2 : cL l[i] r[i] = 0
      · rw [if_pos h2]
        exact Ev.pos h2 ih'
      · rw [if_neg h2]
        exact Ev.neg h2 (Ev.now _)
    · rw [List.drop_of_length_le (show r.length ≤ i by omega)]
      exact Ev.pos (by omega) (Ev.now _)
theorem order_ev (l r : List Lab) (hl : l.length ≤ 1000000) : Ev (fun k => label_Order.f k l r) (ordL l r) := by
  unfold label_Order.f label_Pair_label_Order_1.f
  have h := order_loop l r hl l.length 0 rfl (Nat.zero_le _) (Nat.zero_le _)
  rw [List.drop_zero, List.drop_zero] at h
  exact Ev.bind h (Ev.now _)
end Go.Proofs.Ytbkhgldinmabiaa.B
