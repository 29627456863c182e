/-
  What the document's answer to chapter 6 tells of names, sets and their order: it is the program's, for the seat Ytielpefbgdilaaa.
-/
import Derived.Test.YtielpefbgdilaaaX13
import Derived.Test.YtielpefbgdilaaaX16
import Derived.Test.YtielpefbgdilaaaX18
import Derived.Test.YtielpefbgdilaaaX20
import Derived.Test.YtielpefbgdilaaaJ
set_option linter.unusedVariables false
set_option linter.unusedSimpArgs false
namespace Go.Proofs.Ytielpefbgdilaaa.B
open Go.RowKit Go.Proofs.Ytielpefbgdilaaa.X Go.Proofs.YtielpefbgdilaaaW.PrintWords Go.Proofs.YtielpefbgdilaaaW.PrintLast

abbrev RLab := S54
def toR (p : Lab) : RLab := ⟨p.f0, p.f1⟩
theorem rdR (l : List Lab) (i : Nat) (h : i < l.length) : rd_T54 (l.map toR) (i : Int) = ⟨l[i].f0, l[i].f1⟩ := by simp [rd_T54, h, toR]
theorem lab_ext {a b : Lab} (h0 : a.f0 = b.f0) (h1 : a.f1 = b.f1) : a = b := by
  cases a
  cases b
  simp only at h0 h1
  rw [h0, h1]
theorem refPairs_loop (l : List Lab) (hl : l.length ≤ 1000000) : ∀ (d i : Nat), l.length - i = d → i ≤ l.length →
    Ev (fun k => archivistlaw10_refPairs.l0 k l ((l.take i).map toR) (i : Int)) (l.map toR) := by
  intro d
  induction d with
  | zero =>
    intro i hd hi
    refine Ev.step (fun _ => rfl) ?_
    simp only [archivistlaw10_refPairs.l0]
    rw [List.take_of_length_le (by omega)]
    exact Ev.neg (by omega) (Ev.now _)
  | succ d ih =>
    intro i hd hi
    have hlt : i < l.length := by omega
    have ih' := ih (i + 1) (by omega) (by omega)
    rw [List.take_add_one, List.getElem?_eq_getElem hlt, Option.toList_some, List.map_append] at ih'
    refine Ev.step (fun _ => rfl) ?_
    simp only [archivistlaw10_refPairs.l0]
    rw [rdLab l i hlt, w1 i (by omega)]
    exact Ev.pos (by omega) (Ev.pos (by omega) (Ev.pos (by rw [List.length_map, List.length_take]; omega) ih'))
theorem refPairs_ev (l : List Lab) (hl : l.length ≤ 1000000) : Ev (fun k => archivistlaw10_refPairs.f k l) (l.map toR) :=
  refPairs_loop l hl l.length 0 rfl (Nat.zero_le _)
theorem samePairs_loop (a b : List Lab) (hl : a.length ≤ 1000000) (hlr : a.length = b.length) : ∀ (d i : Nat), a.length - i = d → i ≤ a.length →
    Ev (fun k => archivistlaw10_samePairs.l0 k a (b.map toR) (i : Int)) (decide (a.drop i = b.drop i)) := by
  intro d
  induction d with
  | zero =>
    intro i hd hi
    refine Ev.step (fun _ => rfl) ?_
    simp only [archivistlaw10_samePairs.l0]
    rw [List.drop_of_length_le (by omega), List.drop_of_length_le (by omega)]
    exact Ev.neg (by omega) (Ev.ret (decide_eq_true rfl).symm)
  | succ d ih =>
    intro i hd hi
    have hlt : i < a.length := by omega
    have hlt2 : i < b.length := by omega
    have ih' := ih (i + 1) (by omega) (by omega)
    refine Ev.step (fun _ => rfl) ?_
    simp only [archivistlaw10_samePairs.l0]
    rw [rdLab a i hlt, rdR b i hlt2, w1 i (by omega), List.drop_eq_getElem_cons hlt, List.drop_eq_getElem_cons hlt2]
    dsimp only
    refine Ev.pos (by omega) (Ev.pos (by omega) (Ev.pos (by rw [List.length_map]; omega) ?_))
    by_cases h0 : a[i].f0 = b[i].f0
    · refine Ev.pos (ba_eq.2 h0) ?_
      by_cases h1 : a[i].f1 = b[i].f1
      · refine Ev.pos (ba_eq.2 h1) ?_
        have e : decide (a[i] :: a.drop (i + 1) = b[i] :: b.drop (i + 1)) = decide (a.drop (i + 1) = b.drop (i + 1)) := by
          rw [decide_eq_decide, List.cons.injEq]
          exact ⟨And.right, fun h => ⟨lab_ext h0 h1, h⟩⟩
        rw [e]
        exact ih'
      · exact Ev.neg (fun h => h1 (ba_eq.1 h)) (Ev.ret (decide_eq_false (fun h => h1 (by injection h with h _; rw [h]))).symm)
    · exact Ev.neg (fun h => h0 (ba_eq.1 h)) (Ev.ret (decide_eq_false (fun h => h0 (by injection h with h _; rw [h]))).symm)
theorem samePairs_ev (a b : List Lab) (hl : a.length ≤ 1000000) : Ev (fun k => archivistlaw10_samePairs.f k a (b.map toR)) (decide (a = b)) := by
  unfold archivistlaw10_samePairs.f
  by_cases h : a.length = b.length
  · have h2 := samePairs_loop a b hl h a.length 0 rfl (Nat.zero_le _)
    rw [List.drop_zero, List.drop_zero] at h2
    exact Ev.pos (by rw [List.length_map]; omega) h2
  · exact Ev.neg (by rw [List.length_map]; omega) (Ev.ret (decide_eq_false (fun e => h (by rw [e]))).symm)
/-! ### names -/
theorem letter_all : ∀ n : Fin 256, ∀ b : Bool, archivistref06_letter.f (n.val : Int) b = some (nameC (UInt8.ofNat n.val) && !(b && (decide (48 ≤ n.val) && decide (n.val ≤ 57)))) := by decide +kernel
theorem letter_f (c : UInt8) (b : Bool) : archivistref06_letter.f (c.toNat : Int) b = some (nameC c && !(b && (decide (48 ≤ c.toNat) && decide (c.toNat ≤ 57)))) := by
  have h := letter_all ⟨c.toNat, c.toNat_lt⟩ b
  simpa using h
theorem refName_loop (s : ByteArray) (hz : s.size ≤ 32) : ∀ (d i : Nat), s.size - i = d → 0 < i → i ≤ s.size →
    Ev (fun k => archivistref06_Name.l0 k s (i : Int)) (((by_ s).drop i).all nameC)
  | 0, i, hd, h0, hi => by
    have hb := by_length s
    refine Ev.step (fun _ => rfl) ?_
    simp only [archivistref06_Name.l0]
    rw [List.drop_of_length_le (by omega)]
    exact Ev.neg (by omega) (Ev.now _)
  | d + 1, i, hd, h0, hi => by
    have hb := by_length s
    have hlt : i < (by_ s).length := by omega
    have ih := refName_loop s hz d (i + 1) (by omega) (by omega) (by omega)
    refine Ev.step (fun _ => rfl) ?_
    simp only [archivistref06_Name.l0]
    rw [List.drop_eq_getElem_cons hlt, List.all_cons, w1 i (by omega), bt_by s i hlt, letter_f]
    have e0 : ((i : Int) == 0) = false := by rw [beq_eq_false_iff_ne]; omega
    rw [e0, Bool.false_and, Bool.not_false, Bool.and_true]
    refine Ev.pos (by omega) (Ev.pos (by omega) (Ev.one ?_))
    cases hn : nameC (by_ s)[i] with
    | true =>
      rw [Bool.true_and]
      exact Ev.pos rfl ih
    | false => exact Ev.neg (by simp) (Ev.now _)
theorem refName_ev (s : ByteArray) : Ev (fun k => archivistref06_Name.f k s) (nameP (by_ s)) := by
  have hb := by_length s
  have hno : Ev (fun k => archivistref06_Name.j0 k s true) false := Ev.step (f := fun _ => some false) (fun _ => by simp [archivistref06_Name.j0]) (Ev.now _)
  unfold archivistref06_Name.f
  cases hs : by_ s with
  | nil =>
    rw [hs] at hb
    exact Ev.pos (by simp at hb; omega) hno
  | cons c l =>
    rw [hs] at hb
    simp only [List.length_cons] at hb
    have h0 : bt s 0 = (c.toNat : Int) := bt_at_ s 0 c (by rw [hs]; rfl)
    refine Ev.neg (by omega) ?_
    by_cases h32 : (s.size : Int) > 32
    · have e : nameP (c :: l) = false := by simp only [nameP]; rw [decide_eq_false (by omega)]; rfl
      rw [e, decide_eq_true h32]
      exact hno
    · rw [decide_eq_false h32]
      refine Ev.step (fun _ => rfl) ?_
      simp only [archivistref06_Name.j0]
      refine Ev.neg (by simp) (Ev.step (fun _ => rfl) ?_)
      simp only [archivistref06_Name.l0]
      have h := refName_loop s (by omega) (s.size - 1) 1 rfl (by omega) (by omega)
      rw [hs] at h
      rw [h0, letter_f]
      have e0 : decide (l.length < 32) = true := decide_eq_true (by omega)
      have ew : wrap64 (0 + 1) = ((1 : Nat) : Int) := w1 0 (by omega)
      rw [ew]
      simp only [nameP, e0, Bool.true_and, List.all_cons]
      refine Ev.pos (by omega) (Ev.pos (by decide) (Ev.one ?_))
      cases hn : nameC c with
      | false =>
        rw [Bool.false_and, Bool.false_and, Bool.and_false]
        exact Ev.neg (by simp) (Ev.now _)
      | true =>
        rw [Bool.true_and, Bool.true_and]
        have eb : ((0 : Int) == 0) = true := rfl
        rw [eb, Bool.true_and]
        cases hd : (!(decide (48 ≤ c.toNat) && decide (c.toNat ≤ 57))) with
        | false =>
          rw [Bool.false_and]
          exact Ev.neg (by simp) (Ev.now _)
        | true =>
          rw [Bool.true_and]
          exact Ev.pos rfl h

/-! ### Right -/
/-! ### Of -/
theorem stepP_app (p : Lab) : ∀ a b : List Lab, (∀ y ∈ a, nl y.f0 p.f0) → stepP (a ++ b) p = a ++ stepP b p
  | [], _, _ => rfl
  | x :: a, b, h => by
    rw [List.cons_append, stepP_cons, if_pos (h x List.mem_cons_self), stepP_app p a b (fun y hy => h y (List.mem_cons_of_mem _ hy))]
    rfl
theorem refOf_in (L : List Lab) (hL : L.length ≤ 1000000) (i : Nat) (hi : i < L.length) (R : List RLab) : ∀ (b a : List Lab), (∀ y ∈ a, nl y.f0 L[i].f0) → a.length + b.length ≤ 1000000 →
    Ev (fun k => archivistref06_Of.l0 k (L.map toR) ((stepP (a ++ b) L[i]).map toR) ((i + 1 : Nat) : Int)) R →
    Ev (fun k => archivistref06_Of.l1 k (L.map toR) ((a ++ b).map toR) (i : Int) (a.length : Int)) R := by
  intro b
  induction b with
  | nil =>
    intro a ha hz h
    rw [stepP_app L[i] a [] ha, stepP_nil, List.map_append] at h
    refine Ev.step (fun _ => rfl) ?_
    simp only [archivistref06_Of.l1]
    have e1 : (a.map toR).take a.length = a.map toR := List.take_of_length_le (by rw [List.length_map]; omega)
    have e2 : (a.map toR).drop a.length = [] := List.drop_of_length_le (by rw [List.length_map]; omega)
    have hm : (a.map toR).length = a.length := List.length_map ..
    have hM : (L.map toR).length = L.length := List.length_map ..
    rw [rdR L i hi, w1 i (by omega), Int.toNat_natCast, List.append_nil, e1, e2]
    refine Ev.neg (by omega) (Ev.pos (by omega) (Ev.pos (by omega) (Ev.one (Ev.pos (by simp; omega) (Ev.one (Ev.pos (by omega) (Ev.pos (by omega) (Ev.pos (by simp; omega) (Ev.one (Ev.one (Ev.pos (by simp; omega) ?_)))))))))))
    rw [List.nil_append, List.append_nil]
    exact h
  | cons x b ih =>
    intro a ha hz h
    have hm : ((a ++ x :: b).map toR).length = a.length + (b.length + 1) := by simp
    have hM : (L.map toR).length = L.length := List.length_map ..
    have hx : rd_T54 ((a ++ x :: b).map toR) (a.length : Int) = ⟨x.f0, x.f1⟩ := by
      rw [rdR _ _ (by simp)]
      simp
    have hzz : a.length + (b.length + 1) ≤ 1000000 := hz
    refine Ev.step (fun _ => rfl) ?_
    simp only [archivistref06_Of.l1]
    rw [rdR L i hi, hx, w1 i (by omega), w1 a.length (by omega)]
    dsimp only
    rw [toList_by, toList_by]
    refine Ev.pos (by omega) (Ev.pos (by omega) (Ev.pos (by omega) (Ev.pos (by omega) ?_)))
    by_cases hn : nl x.f0 L[i].f0
    · refine Ev.pos hn ?_
      have e : a ++ x :: b = (a ++ [x]) ++ b := by simp
      have el : (a ++ [x]).length = a.length + 1 := by simp
      rw [e] at h ⊢
      have h2 := ih (a ++ [x]) (fun y hy => by
        rcases List.mem_append.1 hy with h1 | h1
        · exact ha y h1
        · rw [List.mem_singleton.1 h1]
          exact hn) (by omega) h
      rw [el] at h2
      exact h2
    · refine Ev.neg hn ?_
      rw [stepP_app L[i] a (x :: b) ha, stepP_cons, if_neg hn] at h
      have e1 : ((a ++ x :: b).map toR).take a.length = a.map toR := by rw [List.map_append, List.take_left' (List.length_map ..)]
      have e2 : ((a ++ x :: b).map toR).drop a.length = (x :: b).map toR := by rw [List.map_append, List.drop_left' (List.length_map ..)]
      have e3 : ((a ++ x :: b).map toR).drop (a.length + 1) = b.map toR := by
        have e : a ++ x :: b = (a ++ [x]) ++ b := by simp
        rw [e, List.map_append, List.drop_left' (by simp)]
      have hma : (a.map toR).length = a.length := List.length_map ..
      have hmb : (b.map toR).length = b.length := List.length_map ..
      rw [Int.toNat_natCast, Int.toNat_natCast, e1, e2, e3]
      refine Ev.pos (by omega) (Ev.one (Ev.pos (by simp; omega) (Ev.one (Ev.pos (by simp; omega) (Ev.one ?_)))))
      rw [List.nil_append]
      by_cases he : x.f0 = L[i].f0
      · rw [if_pos he] at h
        refine Ev.pos (by rw [he]) (Ev.pos (by omega) (Ev.pos (by omega) (Ev.one (Ev.pos (by simp; omega) ?_))))
        rw [List.append_assoc]
        rw [List.map_append] at h
        exact h
      · rw [if_neg he] at h
        refine Ev.neg (fun e => he (by_ext e)) (Ev.one (Ev.pos (by simp; omega) ?_))
        rw [List.append_assoc]
        rw [List.map_append] at h
        exact h
theorem refOf_loop (L : List Lab) (hL : L.length ≤ 1000000) : ∀ (d i : Nat) (l : List Lab), L.length - i = d → i ≤ L.length → l.length ≤ i →
    Ev (fun k => archivistref06_Of.l0 k (L.map toR) (l.map toR) (i : Int)) ((ofP l (L.drop i)).map toR) := by
  intro d
  induction d with
  | zero =>
    intro i l hd hi hl
    refine Ev.step (fun _ => rfl) ?_
    simp only [archivistref06_Of.l0]
    rw [List.drop_of_length_le (by omega)]
    exact Ev.neg (by rw [List.length_map]; omega) (Ev.now _)
  | succ d ih =>
    intro i l hd hi hl
    have hlt : i < L.length := by omega
    rw [List.drop_eq_getElem_cons hlt]
    refine Ev.step (fun _ => rfl) ?_
    simp only [archivistref06_Of.l0]
    rw [rdR L i hlt, w1 i (by omega)]
    refine Ev.pos (by rw [List.length_map]; omega) (Ev.pos (by omega) (Ev.bind (refName_ev L[i].f0) ?_))
    unfold ofP
    rw [List.foldl_cons]
    by_cases hn : nameP (by_ L[i].f0) = true
    · rw [if_pos hn]
      refine Ev.pos hn ?_
      have ih' := ih (i + 1) (stepP l L[i]) (by omega) (by omega) (by have := stepP_length l L[i]; omega)
      exact refOf_in L hL i hlt _ l [] (fun _ h => by simp at h) (by simp; omega) ih'
    · rw [if_neg hn]
      exact Ev.neg hn (ih (i + 1) l (by omega) (by omega) (by omega))
theorem refOf_ev (L : List Lab) (hL : L.length ≤ 1000000) : Ev (fun k => archivistref06_Of.f k (L.map toR)) ((ofP [] L).map toR) := by
  have h := refOf_loop L hL L.length 0 [] rfl (Nat.zero_le _) (Nat.zero_le _)
  rw [List.drop_zero] at h
  exact h
end Go.Proofs.Ytielpefbgdilaaa.B
