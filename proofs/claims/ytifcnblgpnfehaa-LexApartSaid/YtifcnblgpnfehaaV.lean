/-
  The examples and the made texts of the laws of package lex, and what its words are, for the seat Ytifcnblgpnfehaa.
-/
import Derived.Test.YtifcnblgpnfehaaX16
import Derived.Test.YtifcnblgpnfehaaX18
import Derived.Test.YtifcnblgpnfehaaL
set_option linter.unusedVariables false
set_option linter.unusedSimpArgs false
namespace Go.Proofs.Ytifcnblgpnfehaa.B
open Go.RowKit Go.Proofs.Ytifcnblgpnfehaa.X Go.Proofs.YtifcnblgpnfehaaW.PrintWords Go.Proofs.YtifcnblgpnfehaaW.PrintLast

set_option maxRecDepth 100000 in
theorem lexExamples_ev : Ev (fun k => archivistlaw07_examples.f k) true :=
  Ev.of (k := 80) (fun k => archivistlaw07_examples.mono k) (by kernel_rfl)

/-! ### the signs -/
def opsB : List ByteArray := [⟨#[61, 126]⟩, ⟨#[33, 126]⟩, ⟨#[33, 61]⟩, ⟨#[61, 61]⟩, ⟨#[62, 61]⟩, ⟨#[60, 61]⟩, ⟨#[124, 61]⟩, ⟨#[124, 126]⟩, ⟨#[123]⟩, ⟨#[125]⟩, ⟨#[44]⟩, ⟨#[61]⟩, ⟨#[62]⟩, ⟨#[60]⟩, ⟨#[124]⟩]
theorem lexOps_f : lex_Ops.f = some opsB := rfl
theorem opsB_by : opsB.map by_ = opsP := rfl
/-! ### the made texts -/
def lexWds : List ByteArray := [⟨#[123]⟩, ⟨#[125]⟩, ⟨#[44]⟩, ⟨#[61]⟩, ⟨#[33, 61]⟩, ⟨#[61, 126]⟩, ⟨#[33, 126]⟩, ⟨#[124, 61]⟩, ⟨#[124, 126]⟩, ⟨#[124]⟩, ⟨#[61, 61]⟩, ⟨#[62]⟩, ⟨#[62, 61]⟩, ⟨#[60]⟩, ⟨#[60, 61]⟩, ⟨#[97, 112, 112]⟩, ⟨#[108, 118, 108]⟩, ⟨#[108, 111, 103, 102, 109, 116]⟩, ⟨#[34, 97, 34]⟩, ⟨#[34, 120, 42, 34]⟩, ⟨#[53]⟩, ⟨#[53, 109]⟩, ⟨#[50, 75, 66]⟩, ⟨#[45, 55]⟩, ⟨#[32]⟩, ⟨#[10]⟩, ⟨#[34]⟩, ⟨#[92]⟩, ⟨#[59]⟩, ⟨#[45]⟩, ⟨#[95, 97, 57]⟩, ⟨#[48, 120]⟩]
theorem lexWds_size (i : Int) : (rdOf ByteArray.empty lexWds i).size ≤ 6 := by
  unfold rdOf
  have h : ∀ x ∈ lexWds, x.size ≤ 6 := by decide +kernel
  rw [List.getD_eq_getElem?_getD]
  cases hx : lexWds[i.toNat]? with
  | none => simp
  | some x => exact h x (List.mem_of_getElem? hx)
theorem words_loop (l : List Int) (hl : l.length ≤ 140737488351232) (hw : ∀ x ∈ l, 0 ≤ x ∧ x ≤ 255) : ∀ (d i : Nat) (t : ByteArray), 40 - i = d → i ≤ l.length → t.size ≤ 6 * i → i ≤ 40 →
    ∃ r, r.size ≤ 240 ∧ Ev (fun k => archivistlaw07_words.l0 k l lexWds t (i : Int)) r
  | d, i, t, hd, hi, ht, h40 => by
    by_cases hc : i < l.length ∧ i < 40
    · match d, hd with
      | 0, hd => omega
      | d + 1, hd =>
        obtain ⟨hx0, hx1⟩ := hw _ (List.getElem_mem (h := hc.1))
        have hrd : rd l (i : Int) = l[i] := by simp [rd, hc.1]
        have e1 : wrap64 ((i : Int) + 1) = ((i + 1 : Nat) : Int) := by rw [wrap_in] <;> omega
        have go : ∀ j : Int, ∃ r, r.size ≤ 240 ∧ Ev (fun k => if t.size + (rdOf ByteArray.empty lexWds j).size ≤ 9223372036854775807 then (archivistlaw07_words.l0 k l lexWds (t ++ (rdOf ByteArray.empty lexWds j)) (wrap64 ((i : Int) + 1))) else none) r := fun j => by
          have hz := lexWds_size j
          obtain ⟨r, hr, hev⟩ := words_loop l hl hw d (i + 1) (t ++ rdOf ByteArray.empty lexWds j) (by omega) (by omega) (by rw [ByteArray.size_append]; omega) (by omega)
          refine ⟨r, hr, Ev.pos (by omega) ?_⟩
          rw [e1]
          exact hev
        have hn : (lexWds.length : Int) = 32 := rfl
        by_cases hlt : l[i] < 220
        · obtain ⟨r, hr, hev⟩ := go (Int.tmod (Int.tmod l[i] 26) 32)
          refine ⟨r, hr, Ev.step (fun _ => rfl) ?_⟩
          simp only [archivistlaw07_words.l0]
          refine Ev.pos (by omega) (Ev.step (fun _ => rfl) ?_)
          simp only [archivistlaw07_words.j1]
          rw [hrd]
          refine Ev.pos (by simp; omega) (Ev.pos (by omega) (Ev.pos (by omega) (Ev.pos hlt ?_)))
          rw [Int.tmod_eq_emod_of_nonneg hx0, Int.tmod_eq_emod_of_nonneg (by omega)] at hev ⊢
          exact Ev.pos (by omega) (Ev.pos (by omega) hev)
        · obtain ⟨r, hr, hev⟩ := go (Int.tmod l[i] 32)
          refine ⟨r, hr, Ev.step (fun _ => rfl) ?_⟩
          simp only [archivistlaw07_words.l0]
          refine Ev.pos (by omega) (Ev.step (fun _ => rfl) ?_)
          simp only [archivistlaw07_words.j1]
          rw [hrd]
          refine Ev.pos (by simp; omega) (Ev.pos (by omega) (Ev.pos (by omega) (Ev.neg hlt ?_)))
          rw [Int.tmod_eq_emod_of_nonneg hx0] at hev ⊢
          exact Ev.pos (by omega) (Ev.pos (by omega) hev)
    · refine ⟨t, by omega, Ev.step (fun _ => rfl) ?_⟩
      simp only [archivistlaw07_words.l0]
      by_cases hi : i < l.length
      · refine Ev.pos (by omega) (Ev.step (fun _ => rfl) ?_)
        simp only [archivistlaw07_words.j1]
        exact Ev.neg (by simp; omega) (Ev.now _)
      · refine Ev.neg (by omega) (Ev.step (fun _ => rfl) ?_)
        simp only [archivistlaw07_words.j1]
        exact Ev.neg (by simp) (Ev.now _)
theorem u8_of_wf {l : List Int} (h : ∀ x ∈ l, (Lit.int .u8 x).wf = true) : ∀ x ∈ l, 0 ≤ x ∧ x ≤ 255 := fun x hx => by
  have := h x hx
  have h0 : IntKind.u8.min = 0 := by decide
  have h1 : IntKind.u8.max = 255 := by decide
  simp [Lit.wf] at this
  omega
theorem words_ev (l : List Int) (hl : l.length ≤ 140737488351232) (hw : ∀ x ∈ l, (Lit.int .u8 x).wf = true) : ∃ r, r.size ≤ 240 ∧ Ev (fun k => archivistlaw07_words.f k l) r := by
  obtain ⟨r, hr, h⟩ := words_loop l hl (u8_of_wf hw) 40 0 ⟨#[]⟩ rfl (by omega) (by decide) (by omega)
  exact ⟨r, hr, h⟩

/-! ### what the words are -/
/-- words of a known kind, one behind the other, all of them ahead of a place -/
def WordsOk (n : Nat) (l : List S33) : Prop :=
  (∀ i (h : i < l.length), 1 ≤ l[i].f0 ∧ l[i].f0 ≤ 4 ∧ 0 ≤ l[i].f2 ∧ l[i].f2 < n) ∧ ∀ i (h : i + 1 < l.length), l[i].f2 < l[i + 1].f2
theorem WordsOk.more {n m : Nat} {l : List S33} (h : WordsOk n l) (hm : n ≤ m) : WordsOk m l :=
  ⟨fun i hi => by have := h.1 i hi; omega, h.2⟩
theorem WordsOk.add {n m : Nat} {l : List S33} (h : WordsOk n l) (k : Int) (x : ByteArray) (h1 : 1 ≤ k) (h4 : k ≤ 4) (hm : n < m) : WordsOk m (l ++ [⟨k, x, (n : Int)⟩]) := by
  refine ⟨fun i hi => ?_, fun i hi => ?_⟩
  · by_cases hil : i < l.length
    · rw [List.getElem_append_left hil]
      have := h.1 i hil
      omega
    · rw [List.length_append, List.length_singleton] at hi
      rw [List.getElem_append_right (by omega)]
      simp
      omega
  · rw [List.length_append, List.length_singleton] at hi
    rw [List.getElem_append_left (by omega)]
    by_cases hil : i + 1 < l.length
    · rw [List.getElem_append_left hil]
      exact h.2 i hil
    · rw [List.getElem_append_right (by omega)]
      have := h.1 i (by omega)
      simp
      omega
theorem allP_ok : ∀ (d : Nat) (t : List UInt8) (a : Nat) (l : List S33), t.length ≤ d → WordsOk a l →
    ((allP d t a l).2.2 = 0 ∧ (allP d t a l).2.1 = (a + t.length : Nat) ∧ WordsOk (a + t.length) (allP d t a l).1) ∨
    ((allP d t a l).2.2 = 2 ∧ (allP d t a l).1 = [] ∧ (a : Int) ≤ (allP d t a l).2.1 ∧ (allP d t a l).2.1 < (a + t.length : Nat))
  | 0, [], a, l, _, hg => .inl ⟨rfl, rfl, hg⟩
  | 0, _ :: _, a, l, hd, _ => by simp at hd
  | _ + 1, [], a, l, _, hg => .inl ⟨rfl, rfl, hg⟩
  | d + 1, c :: r, a, l, hd, hg => by
    rw [List.length_cons] at hd ⊢
    simp only [allP]
    by_cases c1 : spC c = true
    · rw [if_pos c1]
      have h := allP_ok d r (a + 1) l (by omega) (hg.more (by omega))
      rw [show a + 1 + r.length = a + (r.length + 1) by omega] at h
      rcases h with h | h
      · exact .inl h
      · exact .inr ⟨h.1, h.2.1, by omega, h.2.2.2⟩
    · rw [if_neg c1]
      cases hp : wordP (c :: r) with
      | none => exact .inr ⟨rfl, rfl, by simp, by simp; omega⟩
      | some w =>
        obtain ⟨k, x, n⟩ := w
        have hn := wordP_len hp
        rw [List.length_cons] at hn
        have e : ((c :: r).drop n).length = r.length + 1 - n := by rw [List.length_drop, List.length_cons]
        have h := allP_ok d ((c :: r).drop n) (a + n) (l ++ [⟨k, ⟨x.toArray⟩, (a : Int)⟩]) (by rw [e]; omega) (hg.add k _ hn.2.2.1 hn.2.2.2 (by omega))
        rw [e, show a + n + (r.length + 1 - n) = a + (r.length + 1) by omega] at h
        rcases h with h | h
        · exact .inl h
        · exact .inr ⟨h.1, h.2.1, by simp at h ⊢; omega, h.2.2.2⟩
theorem WordsOk.ge {n : Nat} {l : List S33} (h : WordsOk n l) : ∀ i (hi : i < l.length), (i : Int) ≤ l[i].f2
  | 0, hi => (h.1 0 hi).2.2.1
  | i + 1, hi => by
    have := WordsOk.ge h i (by omega)
    have := h.2 i hi
    omega
theorem good_len {n : Nat} {l : List S33} (h : WordsOk n l) : l.length ≤ n := by
  by_cases h0 : l.length = 0
  · omega
  · have h1 := h.ge (l.length - 1) (by omega)
    have h2 := (h.1 (l.length - 1) (by omega)).2.2.2
    omega
/-- what lex.All tells of any text -/
theorem all_good (s : ByteArray) : ∃ l, ∃ (a : Nat), ∃ e, Ev (fun k => lex_All.f k s) (l, (a : Int), e) ∧
    ((e = 0 ∧ a = s.size ∧ WordsOk s.size l ∧ s.size ≤ 1024) ∨ (e ≠ 0 ∧ l = [] ∧ a < s.size ∧ a ≤ 1024)) := by
  have h := all_ev s
  by_cases hz : 1024 < s.size
  · rw [if_pos hz] at h
    exact ⟨[], 1024, 4, h, .inr ⟨by decide, rfl, by omega, by omega⟩⟩
  · rw [if_neg hz] at h
    have hb := by_length s
    rcases allP_ok s.size (by_ s) 0 [] (by omega) ⟨fun i h => by simp at h, fun i h => by simp at h⟩ with ⟨h1, h2, h3⟩ | ⟨h1, h2, h3, h4⟩
    · rw [Nat.zero_add, hb] at h2 h3
      refine ⟨_, s.size, 0, ?_, .inl ⟨rfl, rfl, h3, by omega⟩⟩
      rw [← h2, ← h1]
      exact h
    · obtain ⟨a, ha⟩ := Int.eq_ofNat_of_zero_le (show 0 ≤ (allP s.size (by_ s) 0 []).2.1 by omega)
      refine ⟨[], a, 2, ?_, .inr ⟨by decide, rfl, by omega, by omega⟩⟩
      rw [← h2, ← h1, ← ha]
      exact h
end Go.Proofs.Ytifcnblgpnfehaa.B
