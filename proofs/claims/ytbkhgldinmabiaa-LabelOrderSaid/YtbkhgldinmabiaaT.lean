/-
  The labels that the laws of package label draw, and what Of tells of a name, for the seat Ytbkhgldinmabiaa.
-/
import Derived.Test.YtbkhgldinmabiaaX15
import Derived.Test.YtbkhgldinmabiaaD
import Derived.Test.YtbkhgldinmabiaaY
set_option linter.unusedVariables false
set_option linter.unusedSimpArgs false
namespace Go.Proofs.Ytbkhgldinmabiaa.B
open Go.RowKit Go.Proofs.Ytbkhgldinmabiaa.X Go.Proofs.YtbkhgldinmabiaaW.PrintWords Go.Proofs.YtbkhgldinmabiaaW.PrintLast

abbrev Tg := S76
theorem rdTag (l : List Tg) (i : Nat) (h : i < l.length) : rd_T76 l (i : Int) = l[i] := by simp [rd_T76, h]
theorem tag_256 : ∀ k : Fin 256, (match archivistlaw06_Tag_tag.f ByteArray.empty ByteArray.empty true (k.val : Int) with | some p => decide (p.1.size ≤ 3 ∧ p.2.size ≤ 3) | none => false) = true := by decide +kernel
theorem tag_f (n v : ByteArray) (own : Bool) (K : Int) (h0 : 0 ≤ K) (h1 : K < 256) : ∃ p : ByteArray × ByteArray, archivistlaw06_Tag_tag.f n v own K = some p ∧ (p = (n, v) ∨ p.1.size ≤ 3 ∧ p.2.size ≤ 3) := by
  cases own with
  | false => exact ⟨(n, v), by unfold archivistlaw06_Tag_tag.f; rfl, .inl rfl⟩
  | true =>
    obtain ⟨m, rfl⟩ := Int.eq_ofNat_of_zero_le h0
    have h := tag_256 ⟨m, by omega⟩
    have e : archivistlaw06_Tag_tag.f n v true (m : Int) = archivistlaw06_Tag_tag.f ByteArray.empty ByteArray.empty true (m : Int) := rfl
    rw [e]
    dsimp only at h
    split at h
    · rename_i p hp
      exact ⟨p, hp, .inr (of_decide_eq_true h)⟩
    · cases h
/-- a label that is drawn: one of those that came, or one of the little ones -/
def Drawn1 (l : List Tg) (p : Lab) : Prop := (∃ y ∈ l, p.f0 = y.f0.f0 ∧ p.f1 = y.f0.f1) ∨ p.f0.size ≤ 3 ∧ p.f1.size ≤ 3
theorem tags_loop (l : List Tg) (hg : ∀ y ∈ l, 0 ≤ y.f2 ∧ y.f2 < 256) (m : Nat) (hm : m ≤ 1000) : ∀ (d i : Nat) (acc : List Lab), m - i = d → i ≤ m → acc.length = i → (∀ p ∈ acc, Drawn1 l p) →
    ∃ L : List Lab, L.length ≤ m ∧ (∀ p ∈ L, Drawn1 l p) ∧ Ev (fun k => archivistlaw06_tags.l0 k l (m : Int) acc (i : Int)) L := by
  intro d
  induction d with
  | zero =>
    intro i acc hd hi ha hp
    refine ⟨acc, by omega, hp, Ev.step (fun _ => rfl) ?_⟩
    simp only [archivistlaw06_tags.l0]
    by_cases h : (i : Int) < (l.length : Int)
    · exact Ev.pos h (Ev.neg (by omega) (Ev.now _))
    · exact Ev.neg h (Ev.now _)
  | succ d ih =>
    intro i acc hd hi ha hp
    by_cases h : i < l.length
    · obtain ⟨h0, h1⟩ := hg l[i] (List.getElem_mem h)
      obtain ⟨p, hpf, hps⟩ := tag_f l[i].f0.f0 l[i].f0.f1 l[i].f1 l[i].f2 h0 h1
      obtain ⟨L, hL, hLp, hev⟩ := ih (i + 1) (acc ++ [⟨p.1, p.2⟩]) (by omega) (by omega) (by rw [List.length_append, ha]; rfl) (fun q hq => by
        rcases List.mem_append.1 hq with hq | hq
        · exact hp q hq
        · rw [List.mem_singleton.1 hq]
          rcases hps with rfl | hps
          · exact .inl ⟨l[i], List.getElem_mem h, rfl, rfl⟩
          · exact .inr hps)
      refine ⟨L, hL, hLp, Ev.step (fun _ => rfl) ?_⟩
      simp only [archivistlaw06_tags.l0]
      rw [rdTag l i h, hpf, w1 i (by omega)]
      exact Ev.pos (by omega) (Ev.pos (by omega) (Ev.pos (by omega) (Ev.one (Ev.pos (by omega) hev))))
    · refine ⟨acc, by omega, hp, Ev.step (fun _ => rfl) ?_⟩
      simp only [archivistlaw06_tags.l0]
      exact Ev.neg (by omega) (Ev.now _)
theorem tags_ev (l : List Tg) (hg : ∀ y ∈ l, (Lit.int .u8 y.f2).wf = true) (m : Nat) (hm : m ≤ 1000) : ∃ L : List Lab, L.length ≤ m ∧ (∀ p ∈ L, Drawn1 l p) ∧ Ev (fun k => archivistlaw06_tags.f k l (m : Int)) L := by
  unfold archivistlaw06_tags.f
  refine tags_loop l (fun y hy => ?_) m hm m 0 [] rfl (Nat.zero_le _) rfl (fun p h => by simp at h)
  have h := hg y hy
  simp [Lit.wf, IntKind.min, IntKind.max, IntKind.bits, IntKind.signed] at h
  omega
/-! ### what Of tells of a name -/
theorem getL_append (a b : List Lab) (n : ByteArray) : getL (a ++ b) n = (getL a n).or (getL b n) := by
  induction a with
  | nil => rfl
  | cons x a ih =>
    rw [List.cons_append, getL_cons, getL_cons, ih]
    split <;> rfl
theorem ofP_get (n : ByteArray) : ∀ (L l : List Lab), Rise l → getL (ofP l L) n = if nameP (by_ n) = true then (getL L.reverse n).or (getL l n) else getL l n
  | [], l, _ => by
    show getL l n = _
    split <;> rfl
  | p :: L, l, h => by
    have hr : Rise (if nameP (by_ p.f0) = true then stepP l p else l) := by
      split
      · exact stepP_rise l p h
      · exact h
    have ih := ofP_get n L _ hr
    unfold ofP at ih ⊢
    rw [List.foldl_cons, ih, List.reverse_cons, getL_append, getL_cons, getL_nil]
    by_cases hp : nameP (by_ p.f0) = true
    · rw [if_pos hp, stepP_get l p n h]
      by_cases e : p.f0 = n
      · rw [if_pos e, if_pos e]
        rw [e] at hp
        rw [if_pos hp, if_pos hp]
        cases getL L.reverse n <;> rfl
      · rw [if_neg e, if_neg e, Option.or_none]
    · rw [if_neg hp]
      by_cases e : p.f0 = n
      · rw [e] at hp
        rw [if_neg hp, if_neg hp]
      · rw [if_neg e, Option.or_none]
theorem ofP_names : ∀ (L l : List Lab), (∀ p ∈ l, nameP (by_ p.f0) = true) → ∀ p ∈ ofP l L, nameP (by_ p.f0) = true
  | [], _, h => h
  | q :: L, l, h => by
    unfold ofP
    rw [List.foldl_cons]
    refine ofP_names L _ ?_
    split
    · rename_i hq
      intro p hp
      rcases stepP_mem l q p hp with rfl | hp
      · exact hq
      · exact h p hp
    · exact h
theorem getL_mem : ∀ {l : List Lab} {p : Lab}, Rise l → p ∈ l → getL l p.f0 = some p.f1
  | x :: l, p, hr, h => by
    obtain ⟨h1, h2⟩ := rise_cons hr
    rw [getL_cons]
    rcases List.mem_cons.1 h with rfl | h
    · rw [if_pos rfl]
    · rw [if_neg (fun e => nl_irrefl p.f0 (by have := h1 p h; rwa [e] at this)), getL_mem h2 h]
theorem getL_some {l : List Lab} {n v : ByteArray} (hm : getL l n = some v) : ∃ z ∈ l, z.f0 = n ∧ z.f1 = v := by
  unfold getL at hm
  cases hf : l.find? fun x => decide (x.f0 = n) with
  | none => rw [hf] at hm; cases hm
  | some z =>
    rw [hf] at hm
    exact ⟨z, List.mem_of_find?_eq_some hf, by simpa using List.find?_some hf, Option.some.inj hm⟩
theorem getL_rev : ∀ {l : List Lab} (n : ByteArray), Rise l → getL l.reverse n = getL l n
  | [], _, _ => rfl
  | x :: l, n, h => by
    obtain ⟨h1, h2⟩ := rise_cons h
    rw [List.reverse_cons, getL_append, getL_rev n h2, getL_cons, getL_nil, getL_cons]
    by_cases e : x.f0 = n
    · rw [if_pos e, if_pos e, getL_none (fun y hy e2 => nl_irrefl n (by have := h1 y hy; rwa [e, e2] at this))]
      rfl
    · rw [if_neg e, if_neg e, Option.or_none]
/-- what is told of a name that is none -/
theorem getL_bad {l : List Lab} {n : ByteArray} (h : ∀ p ∈ l, nameP (by_ p.f0) = true) (hn : ¬ nameP (by_ n) = true) : getL l n = none :=
  getL_none fun y hy e => hn (e ▸ h y hy)
/-- a set, and whatever tells the same of the names, is made that set -/
theorem ofP_same {s M : List Lab} (hr : Rise s) (hn : ∀ p ∈ s, nameP (by_ p.f0) = true) (hM : ∀ n, getL M.reverse n = getL s n) : ofP [] M = s := by
  refine rise_ext (ofP_rise M [] List.Pairwise.nil) hr fun n => ?_
  rw [ofP_get n M [] List.Pairwise.nil, hM n, getL_nil, Option.or_none]
  by_cases h : nameP (by_ n) = true
  · rw [if_pos h]
  · rw [if_neg h, getL_bad hn h]
theorem of_rise (L : List Lab) : Rise (ofP [] L) := ofP_rise L [] List.Pairwise.nil
theorem of_names (L : List Lab) : ∀ p ∈ ofP [] L, nameP (by_ p.f0) = true := ofP_names L [] (fun p h => by simp at h)
theorem of_len (L : List Lab) : (ofP [] L).length ≤ L.length := by have := ofP_length L []; simpa using this
theorem of_of (L : List Lab) : ofP [] (ofP [] L) = ofP [] L := ofP_same (of_rise L) (of_names L) fun n => getL_rev n (of_rise L)
theorem of_back (L : List Lab) : ofP [] (ofP [] L).reverse = ofP [] L := ofP_same (of_rise L) (of_names L) fun n => by rw [List.reverse_reverse]
theorem of_twice (L : List Lab) : ofP [] (ofP [] L ++ ofP [] L) = ofP [] L := ofP_same (of_rise L) (of_names L) fun n => by
  rw [List.reverse_append, getL_append, getL_rev n (of_rise L)]
  cases getL (ofP [] L) n <;> rfl
theorem of_get (L : List Lab) (n : ByteArray) : getL (ofP [] L) n = if nameP (by_ n) = true then getL L.reverse n else none := by
  rw [ofP_get n L [] List.Pairwise.nil, getL_nil, Option.or_none]
end Go.Proofs.Ytbkhgldinmabiaa.B
