/-
 The plain texts of the seat Ytaehlbbjbeibfaa in one.
-/
import Derived.Test.YtaehlbbjbeibfaaX16
import Derived.Test.YtaehlbbjbeibfaaX5
import Derived.Test.YtaehlbbjbeibfaaJ
import Derived.Test.YtaehlbbjbeibfaaX6
import Derived.Test.YtaehlbbjbeibfaaX14
import Derived.Test.YtaehlbbjbeibfaaX4
import Derived.Test.YtaehlbbjbeibfaaX60
import Derived.Test.YtaehlbbjbeibfaaX7
import Derived.Test.YtaehlbbjbeibfaaI
section
set_option linter.unusedVariables false
set_option linter.unusedSimpArgs false
namespace Go.Proofs.Ytaehlbbjbeibfaa.B
open Go.RowKit Go.Proofs.Ytaehlbbjbeibfaa.X Go.Proofs.YtaehlbbjbeibfaaW.PrintWords Go.Proofs.YtaehlbbjbeibfaaW.PrintLast

abbrev RLab := S108
def toR (p : Lab) : RLab := ⟨p.f0, p.f1⟩
theorem rdR (l : List Lab) (i : Nat) (h : i < l.length) : rd_T108 (l.map toR) (i : Int) = ⟨l[i].f0, l[i].f1⟩ := by simp [rd_T108, h, toR]
theorem lab_ext {a b : Lab} (h0 : a.f0 = b.f0) (h1 : a.f1 = b.f1) : a = b := by
 cases a
 cases b
 simp only at h0 h1
 rw [h0, h1]
theorem refPairs_loop (l : List Lab) (hl : l.length ≤ 4398046511104) : ∀ (d i : Nat), l.length - i = d → i ≤ l.length →
  Ev (fun k => archivistlaw16_refPairs.l0 k l ((l.take i).map toR) (i : Int)) (l.map toR) := by
 intro d
 induction d with
 | zero =>
  intro i hd hi
  refine Ev.step (fun _ => rfl) ?_
  simp only [archivistlaw16_refPairs.l0]
  rw [List.take_of_length_le (by omega)]
  exact Ev.neg (by omega) (Ev.now _)
 | succ d ih =>
  intro i hd hi
  have hlt : i < l.length := by omega
  have ih' := ih (i + 1) (by omega) (by omega)
  rw [List.take_add_one, List.getElem?_eq_getElem hlt, Option.toList_some, List.map_append] at ih'
  refine Ev.step (fun _ => rfl) ?_
  simp only [archivistlaw16_refPairs.l0]
  rw [rdLab l i hlt, w1 i (by omega)]
  exact Ev.pos (by omega) (Ev.pos (by omega) (Ev.pos (by rw [List.length_map, List.length_take]; omega) ih'))
theorem refPairs_ev (l : List Lab) (hl : l.length ≤ 4398046511104) : Ev (fun k => archivistlaw16_refPairs.f k l) (l.map toR) :=
 refPairs_loop l hl l.length 0 rfl (Nat.zero_le _)
theorem samePairs_loop (a b : List Lab) (hl : a.length ≤ 4398046511104) (hlr : a.length = b.length) : ∀ (d i : Nat), a.length - i = d → i ≤ a.length →
  Ev (fun k => archivistlaw16_samePairs.l0 k a (b.map toR) (i : Int)) (decide (a.drop i = b.drop i)) := by
 intro d
 induction d with
 | zero =>
  intro i hd hi
  refine Ev.step (fun _ => rfl) ?_
  simp only [archivistlaw16_samePairs.l0]
  rw [List.drop_of_length_le (by omega), List.drop_of_length_le (by omega)]
  exact Ev.neg (by omega) (Ev.ret (decide_eq_true rfl).symm)
 | succ d ih =>
  intro i hd hi
  have hlt : i < a.length := by omega
  have hlt2 : i < b.length := by omega
  have ih' := ih (i + 1) (by omega) (by omega)
  refine Ev.step (fun _ => rfl) ?_
  simp only [archivistlaw16_samePairs.l0]
  rw [rdLab a i hlt, rdR b i hlt2, w1 i (by omega), List.drop_eq_getElem_cons hlt, List.drop_eq_getElem_cons hlt2]
  dsimp only
  refine Ev.pos (by omega) (Ev.pos (by omega) (Ev.pos (by rw [List.length_map]; omega) ?_))
  by_cases h0 : a[i].f0 = b[i].f0
  ·refine Ev.pos (ba_eq.2 h0) ?_
   by_cases h1 : a[i].f1 = b[i].f1
   ·refine Ev.pos (ba_eq.2 h1) ?_
    have e : decide (a[i] :: a.drop (i + 1) = b[i] :: b.drop (i + 1)) = decide (a.drop (i + 1) = b.drop (i + 1)) := by
     rw [decide_eq_decide, List.cons.injEq]
     exact ⟨And.right, fun h => ⟨lab_ext h0 h1, h⟩⟩
    rw [e]
    exact ih'
   ·exact Ev.neg (fun h => h1 (ba_eq.1 h)) (Ev.ret (decide_eq_false (fun h => h1 (by injection h with h _; rw [h]))).symm)
  ·exact Ev.neg (fun h => h0 (ba_eq.1 h)) (Ev.ret (decide_eq_false (fun h => h0 (by injection h with h _; rw [h]))).symm)
theorem samePairs_ev (a b : List Lab) (hl : a.length ≤ 4398046511104) : Ev (fun k => archivistlaw16_samePairs.f k a (b.map toR)) (decide (a = b)) := by
 unfold archivistlaw16_samePairs.f
 by_cases h : a.length = b.length
 ·have h2 := samePairs_loop a b hl h a.length 0 rfl (Nat.zero_le _)
  rw [List.drop_zero, List.drop_zero] at h2
  exact Ev.pos (by rw [List.length_map]; omega) h2
 ·exact Ev.neg (by rw [List.length_map]; omega) (Ev.ret (decide_eq_false (fun e => h (by rw [e]))).symm)
/-! ### names -/
/-! ### Right -/
/-! ### Of -/
end Go.Proofs.Ytaehlbbjbeibfaa.B
end

section
set_option linter.unusedVariables false
set_option linter.unusedSimpArgs false
namespace Go.Proofs.Ytaehlbbjbeibfaa.B
open Go.RowKit Go.Proofs.Ytaehlbbjbeibfaa.X Go.Proofs.YtaehlbbjbeibfaaW.PrintWords Go.Proofs.YtaehlbbjbeibfaaW.PrintLast

/-! ### order -/
theorem refLess_f (a b : ByteArray) : archivistref06_less.f a b = some (cB a b) := by
 unfold archivistref06_less.f cB
 rw [toList_by, toList_by]
 rcases cmpB (by_ a) (by_ b) with ⟨h1, h2⟩ | ⟨h1, h2⟩ | ⟨h1, h2⟩
 ·rw [if_pos h1, h2]
 ·rw [h2]
  have e : a = b := by_ext h1
  subst e
  have hn : ¬ Op.bytesLess (by_ a) (by_ a) = true := nl_irrefl a
  rw [if_neg hn, if_neg hn]
 ·have hn : ¬ Op.bytesLess (by_ a) (by_ b) = true := nl_asym (a := b) (b := a) h1
  rw [if_neg hn, if_pos h1, h2]
theorem refOrder_loop (l r : List Lab) (hl : l.length ≤ 4398046511104) : ∀ (d i : Nat), l.length - i = d → i ≤ l.length → i ≤ r.length →
  Ev (fun k => archivistref06_Order.l0 k (l.map toR) (r.map toR) (i : Int)) (ordL (l.drop i) (r.drop i)) := by
 have hm : (l.map toR).length = l.length := List.length_map ..
 have hM : (r.map toR).length = r.length := List.length_map ..
 intro d
 induction d with
 | zero =>
  intro i hd hi hir
  refine Ev.step (fun _ => rfl) ?_
  simp only [archivistref06_Order.l0]
  rw [List.drop_of_length_le (show l.length ≤ i by omega)]
  refine Ev.neg (by omega) (Ev.step (fun _ => rfl) ?_)
  simp only [archivistref06_Order.j1]
  refine Ev.neg (by simp) ?_
  by_cases h : l.length < r.length
  ·rw [List.drop_eq_getElem_cons (show i < r.length by omega)]
   exact Ev.pos (by omega) (Ev.now _)
  ·rw [List.drop_of_length_le (show r.length ≤ i by omega)]
   exact Ev.neg (by omega) (Ev.neg (by omega) (Ev.now _))
 | succ d ih =>
  intro i hd hi hir
  have hlt : i < l.length := by omega
  refine Ev.step (fun _ => rfl) ?_
  simp only [archivistref06_Order.l0]
  rw [List.drop_eq_getElem_cons hlt]
  refine Ev.pos (by omega) (Ev.step (fun _ => rfl) ?_)
  simp only [archivistref06_Order.j1]
  by_cases h : i < r.length
  ·have ih' := ih (i + 1) (by omega) (by omega) (by omega)
   rw [List.drop_eq_getElem_cons h, rdR l i hlt, rdR r i h, w1 i (by omega)]
   dsimp only
   rw [refLess_f, refLess_f]
   refine Ev.pos (decide_eq_true (by omega)) (Ev.pos (by omega) (Ev.pos (by omega) (Ev.pos (by omega) (Ev.one ?_))))
   unfold ordL cL
   by_cases h2 : cB l[i].f0 r[i].f0 = 0
   ·rw [if_pos h2]
    refine Ev.pos h2 (Ev.one ?_)
    by_cases h3 : cB l[i].f1 r[i].f1 = 0
    ·rw [if_pos h3]
     exact Ev.pos h3 ih'
    ·rw [if_neg h3]
     exact Ev.neg h3 (Ev.now _)
   ·rw [if_neg h2, if_neg h2]
    exact Ev.neg h2 (Ev.now _)
  ·rw [List.drop_of_length_le (show r.length ≤ i by omega)]
   exact Ev.neg (by rw [decide_eq_true_eq]; omega) (Ev.neg (by omega) (Ev.pos (by omega) (Ev.now _)))
theorem refOrder_ev (l r : List Lab) (hl : l.length ≤ 4398046511104) : Ev (fun k => archivistref06_Order.f k (l.map toR) (r.map toR)) (ordL l r) := by
 have h := refOrder_loop l r hl l.length 0 rfl (Nat.zero_le _) (Nat.zero_le _)
 rw [List.drop_zero, List.drop_zero] at h
 exact h

end Go.Proofs.Ytaehlbbjbeibfaa.B
end

section
set_option linter.unusedVariables false
set_option linter.unusedSimpArgs false
namespace Go.Proofs.Ytaehlbbjbeibfaa.B
open Go.RowKit Go.Proofs.Ytaehlbbjbeibfaa.X Go.Proofs.Ytaehlbbjbeibfaa.Pure Go.Proofs.YtaehlbbjbeibfaaW.PrintWords Go.Proofs.YtaehlbbjbeibfaaW.PrintLast

/-! ### the document's entries -/
abbrev REnt := S48
def toE (x : Ent) : REnt := ⟨x.f0, x.f1.map toR, x.f2⟩
theorem refEntry_ev (x : Ent) (hx : okE x) : Ev (fun k => archivistlaw16_refEntry.f k x.f0 x.f1 x.f2) (x.f0, x.f1.map toR, x.f2) := by
 unfold archivistlaw16_refEntry.f
 exact Ev.bind (refPairs_ev x.f1 hx) (Ev.now _)
theorem refOrderE_ev (x y : Ent) (hx : okE x) : Ev (fun k => archivistref13_Order.f k x.f0 (x.f1.map toR) x.f2 y.f0 (y.f1.map toR) y.f2) (ordE x y) := by
 unfold archivistref13_Order.f ordE
 by_cases h0 : x.f0 = y.f0
 ·refine Ev.pos h0 (Ev.bind (refOrder_ev x.f1 y.f1 hx) ?_)
  rw [if_pos ((cI_stands.eq _ _).2 h0)]
  by_cases h1 : ordL x.f1 y.f1 = 0
  ·refine Ev.pos h1 ?_
   rw [if_pos h1]
   have hr := refLess_f x.f2 y.f2
   unfold archivistref06_less.f at hr
   rw [show (if Op.bytesLess x.f2.toList y.f2.toList = true then some (-1 : Int) else if Op.bytesLess y.f2.toList x.f2.toList = true then some 1 else some 0) = some (cB x.f2 y.f2) from hr]
   exact Ev.now _
  ·refine Ev.neg h1 ?_
   rw [if_neg h1]
   exact Ev.now _
 ·rw [if_neg (fun e => h0 ((cI_stands.eq _ _).1 e))]
  refine Ev.neg h0 ?_
  unfold cI
  by_cases h1 : x.f0 < y.f0
  ·refine Ev.pos h1 ?_
   rw [if_pos h1]
   exact Ev.now _
  ·refine Ev.neg h1 ?_
   rw [if_neg h1, if_pos (by omega)]
   exact Ev.now _
theorem refAhead_ev (x y : Ent) (asc : Bool) (hx : okE x) : Ev (fun k => archivistref13_Ahead.f k x.f0 (x.f1.map toR) x.f2 y.f0 (y.f1.map toR) y.f2 asc) (ahE asc x y) := by
 unfold archivistref13_Ahead.f ahE
 have hf := ordE_stands.flip x y
 cases asc with
 | true => exact Ev.pos rfl (Ev.bind (refOrderE_ev x y hx) (Ev.now _))
 | false =>
  refine Ev.neg (by simp) (Ev.bind (refOrderE_ev x y hx) (Ev.ret ?_))
  rw [if_neg (by simp)]
  exact decide_eq_decide.2 (by omega)
/-! ### put in their order -/
theorem srtB_ins {asc : Bool} {l : List Ent} (h : SrtB (ahE asc) l) (x : Ent) (m : Nat) (hm : m ≤ l.length) (h1 : ∀ (j : Nat) (hj : j < l.length), m ≤ j → ahE asc l[j] x = false) (h2 : ∀ (j : Nat) (hj : j < l.length), j < m → ahE asc x l[j] = false) : SrtB (ahE asc) (l.take m ++ [x] ++ l.drop m) := by
 have hs := h
 unfold SrtB at hs ⊢
 rw [← List.take_append_drop m l, List.pairwise_append] at hs
 rw [List.append_assoc, List.pairwise_append]
 refine ⟨hs.1, ?_, fun a ha b hb => ?_⟩
 ·rw [List.singleton_append, List.pairwise_cons]
  refine ⟨fun b hb => ?_, hs.2.1⟩
  obtain ⟨j, hj, rfl⟩ := List.mem_iff_getElem.1 hb
  rw [List.length_drop] at hj
  rw [List.getElem_drop]
  exact h1 (m + j) (by omega) (by omega)
 ·rcases List.mem_cons.1 (by simpa using hb : b ∈ x :: l.drop m) with rfl | hb
  ·obtain ⟨j, hj, rfl⟩ := List.mem_iff_getElem.1 ha
   rw [List.length_take] at hj
   rw [List.getElem_take]
   exact h2 j (by omega) (by omega)
  ·exact hs.2.2 a ha b hb
theorem sorted_loop (asc : Bool) (x : List Ent) (hx : x.length ≤ 1000) (hok : ∀ q ∈ x, okE q) : ∀ (d i : Nat) (p : List Ent), x.length - i = d → i ≤ x.length → p.Perm (x.take i) → SrtB (ahE asc) p →
  ∃ M, M.Perm x ∧ SrtB (ahE asc) M ∧ Ev (fun k => archivistlaw16_sorted.l0 k x asc p (i : Int)) M := by
 intro d
 induction d with
 | zero =>
  intro i p hd hi hp hs
  refine ⟨p, by rwa [List.take_of_length_le (by omega)] at hp, hs, Ev.step (fun _ => rfl) ?_⟩
  simp only [archivistlaw16_sorted.l0]
  exact Ev.neg (by omega) (Ev.now _)
 | succ d ih =>
  intro i p hd hi hp hs
  have hlt : i < x.length := by omega
  have hpl : p.length = i := by rw [hp.length_eq, List.length_take]; omega
  have hxo := hok x[i] (List.getElem_mem hlt)
  have hq : ∀ q ∈ p, okE q := fun q hq => hok q (List.mem_of_mem_take (hp.mem_iff.1 hq))
  have ins : ∀ (m : Nat), m ≤ p.length → (∀ (j : Nat) (hj : j < p.length), m ≤ j → ahE asc p[j] x[i] = false) → (∀ (j : Nat) (hj : j < p.length), j < m → ahE asc x[i] p[j] = false) → ∃ M, M.Perm x ∧ SrtB (ahE asc) M ∧ Ev (fun k => archivistlaw16_sorted.l0 k x asc (p.take m ++ [x[i]] ++ p.drop m) ((i + 1 : Nat) : Int)) M := by
   intro m hm h1 h2
   refine ih (i + 1) _ (by omega) (by omega) ?_ (srtB_ins hs x[i] m hm h1 h2)
   rw [List.take_succ_eq_append_getElem hlt]
   refine List.Perm.trans ?_ (hp.append_right _)
   have e : p.Perm (p.take m ++ p.drop m) := by rw [List.take_append_drop]
   refine List.Perm.trans ?_ (e.symm.append_right _)
   rw [List.append_assoc, List.append_assoc]
   exact List.Perm.append_left _ List.perm_append_comm
  have loop : ∀ (m : Nat), m ≤ p.length → (∀ (j : Nat) (hj : j < p.length), m ≤ j → ahE asc p[j] x[i] = false) → ∃ M, M.Perm x ∧ SrtB (ahE asc) M ∧ Ev (fun k => archivistlaw16_sorted.l1 k x asc p (i : Int) (m : Int)) M := by
   intro m
   induction m with
   | zero =>
    intro hm h1
    obtain ⟨M, g1, g2, hins⟩ := ins 0 hm h1 (fun j _ hj => absurd hj (Nat.not_lt_zero _))
    refine ⟨M, g1, g2, Ev.step (fun _ => rfl) ?_⟩
    simp only [archivistlaw16_sorted.l1]
    rw [rdEnt x i hlt, w1 i (by omega)]
    refine Ev.neg (by omega) (Ev.pos (by omega) (Ev.pos (by omega) (Ev.one (Ev.pos (by simp) (Ev.one (Ev.pos (by omega) (Ev.pos (by omega) (Ev.pos (by simp) (Ev.one (Ev.one (Ev.pos (by simp; omega) ?_)))))))))))
    exact hins
   | succ m ihm =>
    intro hm h1
    have hml : m < p.length := by omega
    have hw : wrap64 (((m + 1 : Nat) : Int) - 1) = (m : Int) := by rw [wrap_in] <;> omega
    have hah := refAhead_ev x[i] p[m] asc hxo
    have hpm := hq _ (List.getElem_mem hml)
    cases hb : ahE asc x[i] p[m] with
    | true =>
     obtain ⟨M, g1, g2, g3⟩ := ihm (by omega) (fun j hj hmj => by
      rcases Nat.lt_or_ge m j with h | h
      ·exact h1 j hj (by omega)
      ·obtain rfl : j = m := by omega
       exact ahE_asym asc _ _ hb)
     refine ⟨M, g1, g2, Ev.step (fun _ => rfl) ?_⟩
     simp only [archivistlaw16_sorted.l1]
     rw [hw, rdEnt x i hlt, rdEnt p m hml, w1 i (by omega)]
     rw [hb] at hah
     exact Ev.pos (by omega) (Ev.pos (by omega) (Ev.pos (by omega) (Ev.bind (refEntry_ev x[i] hxo) (Ev.pos (by omega) (Ev.pos (by omega) (Ev.bind (refEntry_ev p[m] hpm) (Ev.bind hah (Ev.pos rfl g3))))))))
    | false =>
     obtain ⟨M, g1, g2, hins⟩ := ins (m + 1) (by omega) h1 (fun j hj hjm => by
      by_cases e : j = m
      ·subst e
       exact hb
      ·exact ahE_neg asc _ _ _ hb (List.pairwise_iff_getElem.1 hs j m hj hml (by omega)))
     refine ⟨M, g1, g2, Ev.step (fun _ => rfl) ?_⟩
     simp only [archivistlaw16_sorted.l1]
     rw [hw, rdEnt x i hlt, rdEnt p m hml, w1 i (by omega)]
     rw [hb] at hah
     refine Ev.pos (by omega) (Ev.pos (by omega) (Ev.pos (by omega) (Ev.bind (refEntry_ev x[i] hxo) (Ev.pos (by omega) (Ev.pos (by omega) (Ev.bind (refEntry_ev p[m] hpm) (Ev.bind hah (Ev.neg (by simp) (Ev.pos (by omega) (Ev.pos (by omega) (Ev.one (Ev.pos (by simp; omega) (Ev.one (Ev.pos (by simp; omega) (Ev.one (Ev.one (Ev.pos (by simp; omega) ?_)))))))))))))))))
     exact hins
  obtain ⟨M, g1, g2, g3⟩ := loop p.length (Nat.le_refl _) (fun j hj h => absurd hj (by omega))
  refine ⟨M, g1, g2, Ev.step (fun _ => rfl) ?_⟩
  simp only [archivistlaw16_sorted.l0]
  exact Ev.pos (by omega) g3
theorem sorted_ev (asc : Bool) (x : List Ent) (hx : x.length ≤ 1000) (hok : ∀ q ∈ x, okE q) : ∃ M, M.Perm x ∧ SrtB (ahE asc) M ∧ Ev (fun k => archivistlaw16_sorted.f k x asc true) M := by
 obtain ⟨M, g1, g2, g3⟩ := sorted_loop asc x hx hok x.length 0 [] rfl (Nat.zero_le _) (by rw [List.take_zero]) List.Pairwise.nil
 refine ⟨M, g1, g2, ?_⟩
 unfold archivistlaw16_sorted.f
 exact Ev.pos rfl g3
end Go.Proofs.Ytaehlbbjbeibfaa.B
end
