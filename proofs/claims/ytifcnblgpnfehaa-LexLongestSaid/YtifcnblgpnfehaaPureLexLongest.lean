/-
  The law of the longest signs and words, for the seat Ytifcnblgpnfehaa.
-/
import Derived.Test.YtifcnblgpnfehaaX25
import Derived.Test.YtifcnblgpnfehaaO
set_option linter.unusedVariables false
set_option linter.unusedSimpArgs false
namespace Go.Proofs.Ytifcnblgpnfehaa.Pure
open Go.RowKit Go.Proofs.Ytifcnblgpnfehaa.X Go.Proofs.Ytifcnblgpnfehaa.B Go.Proofs.YtifcnblgpnfehaaW.PrintWords Go.Proofs.YtifcnblgpnfehaaW.PrintLast

theorem toList_mk (x : ByteArray) : (⟨(by_ x).toArray⟩ : ByteArray).toList = x.toList := by rw [toList_by, toList_by, by_mk]
def bigs : List ByteArray := [(⟨#[61, 126]⟩ : ByteArray), (⟨#[33, 126]⟩ : ByteArray), (⟨#[33, 61]⟩ : ByteArray), (⟨#[61, 61]⟩ : ByteArray), (⟨#[62, 61]⟩ : ByteArray), (⟨#[60, 61]⟩ : ByteArray), (⟨#[124, 61]⟩ : ByteArray), (⟨#[124, 126]⟩ : ByteArray)]
def smalls : List ByteArray := [(⟨#[123]⟩ : ByteArray), (⟨#[125]⟩ : ByteArray), (⟨#[44]⟩ : ByteArray), (⟨#[62]⟩ : ByteArray), (⟨#[60]⟩ : ByteArray)]
theorem big_word {x : ByteArray} (hx : x ∈ bigs) (r : List UInt8) : wordP (by_ x ++ r) = some (4, by_ x, (by_ x).length) ∧ (by_ x).length = 2 := by
  have h : ∀ x ∈ bigs, opP (by_ x) = some (by_ x) ∧ (by_ x).length = 2 := by decide +kernel
  obtain ⟨h1, h2⟩ := h x hx
  refine ⟨word_op ?_, h2⟩
  rw [op_two, ← h2, List.take_left]
  exact h1
theorem small_word {y : ByteArray} (hy : y ∈ smalls) (r : List UInt8) (hr : ∀ c r', r = c :: r' → c = 97 ∨ c = 55) : wordP (by_ y ++ r) = some (4, by_ y, (by_ y).length) ∧ (by_ y).length = 1 := by
  have h : ∀ y ∈ smalls, opP (by_ y) = some (by_ y) ∧ opP (by_ y ++ [97]) = some (by_ y) ∧ opP (by_ y ++ [55]) = some (by_ y) ∧ (by_ y).length = 1 := by decide +kernel
  obtain ⟨h1, h2, h3, h4⟩ := h y hy
  refine ⟨word_op ?_, h4⟩
  cases r with
  | nil => rw [List.append_nil]; exact h1
  | cons c r =>
    have e : (by_ y ++ c :: r).take 2 = by_ y ++ [c] := by
      rw [List.take_append, h4, List.take_of_length_le (by omega)]
      rfl
    rw [op_two, e]
    rcases hr c r rfl with rfl | rfl
    · exact h2
    · exact h3
theorem small_not {y : ByteArray} (hy : y ∈ smalls) (r : List UInt8) : ∀ d r', by_ y ++ r = d :: r' → nameC d = false ∧ valC d = false := by
  have h : ∀ y ∈ smalls, ∃ c, by_ y = [c] ∧ nameC c = false ∧ valC c = false := by
    intro y hy
    have h : ∀ y ∈ smalls, by_ y = [(by_ y).headD 0] ∧ nameC ((by_ y).headD 0) = false ∧ valC ((by_ y).headD 0) = false := by decide +kernel
    exact ⟨_, h y hy⟩
  obtain ⟨c, h1, h2⟩ := h y hy
  intro d r' h3
  rw [h1] at h3
  injection h3 with h3 _
  subst h3
  exact h2
/-- a name, and a value, of the letters and digits that the law takes -/
def NameOf (s : ByteArray) : Prop := ∃ w, by_ s = 97 :: w ∧ ∀ c ∈ w, valC c = true
def ValOf (s : ByteArray) : Prop := ∃ w, by_ s = 55 :: w ∧ ∀ c ∈ w, valC c = true
theorem val_name (c : UInt8) (h : valC c = true) : nameC c = true := by
  have hh : ∀ n : Fin 256, valC (UInt8.ofNat n.val) = true → nameC (UInt8.ofNat n.val) = true := by decide +kernel
  have := hh ⟨c.toNat, c.toNat_lt⟩
  simp only [UInt8.ofNat_toNat] at this
  exact this h
theorem longest_all (x y nm va : ByteArray) (hx : x ∈ bigs) (hy : y ∈ smalls) (hn : NameOf nm) (hv : ValOf va) (hns : nm.size ≤ 21) (hvs : va.size ≤ 21) :
    Ev (fun k => lex_All.f k (((((x ++ y) ++ nm) ++ y) ++ va) ++ y)) ([⟨4, ⟨(by_ x).toArray⟩, ((0 : Nat) : Int)⟩, ⟨4, ⟨(by_ y).toArray⟩, ((2 : Nat) : Int)⟩, ⟨1, ⟨(by_ nm).toArray⟩, ((3 : Nat) : Int)⟩, ⟨4, ⟨(by_ y).toArray⟩, ((3 + nm.size : Nat) : Int)⟩, ⟨3, ⟨(by_ va).toArray⟩, ((4 + nm.size : Nat) : Int)⟩, ⟨4, ⟨(by_ y).toArray⟩, ((4 + nm.size + va.size : Nat) : Int)⟩], ((5 + nm.size + va.size : Nat) : Int), 0) := by
  have bx := by_length x
  have bY := by_length y
  have bn := by_length nm
  have bv := by_length va
  obtain ⟨_, sx⟩ := big_word hx []
  obtain ⟨_, sy⟩ := small_word hy [] (fun c r h => by cases h)
  obtain ⟨wn, en, cn⟩ := hn
  obtain ⟨wv, ev, cv⟩ := hv
  have hall := all_ev (((((x ++ y) ++ nm) ++ y) ++ va) ++ y)
  have hz : (((((x ++ y) ++ nm) ++ y) ++ va) ++ y).size = 5 + nm.size + va.size := by simp only [ByteArray.size_append]; omega
  rw [if_neg (by omega), hz] at hall
  simp only [by_append, List.append_assoc] at hall
  obtain ⟨d, hd⟩ : ∃ d, 5 + nm.size + va.size = d + 1 + 1 + 1 + 1 + 1 + 1 := ⟨nm.size + va.size - 1, by have : 1 ≤ nm.size := by rw [← bn, en]; simp
                                                                                                        omega⟩
  have h6 := (small_word hy [] (fun c r h => by cases h)).1
  have h5 : wordP (by_ va ++ (by_ y ++ [])) = some (3, by_ va, (by_ va).length) := by
    rw [ev]
    exact word_num (by decide) (by simpa using ⟨by decide, cv⟩) (fun d r' h => (small_not hy [] d r' h).2)
  have h4 := (small_word hy (by_ va ++ (by_ y ++ [])) (fun c r h => by rw [ev] at h; injection h with h _; exact .inr h.symm)).1
  have h3 : wordP (by_ nm ++ (by_ y ++ (by_ va ++ (by_ y ++ [])))) = some (1, by_ nm, (by_ nm).length) := by
    have hall : ∀ d ∈ 97 :: wn, nameC d = true := by simpa using ⟨by decide, fun c hc => val_name c (cn c hc)⟩
    have hp : nameP (97 :: wn) = true := by
      have hlen : (97 :: wn).length ≤ 21 := by rw [← en]; omega
      rw [List.length_cons] at hlen
      simp [nameP, hall, fun c hc => val_name c (cn c hc)]
      refine ⟨?_, ?_⟩ <;> first | omega | decide | exact fun c hc => val_name c (cn c hc) | (refine ⟨?_, ?_⟩ <;> first | omega | decide | exact fun c hc => val_name c (cn c hc))
    rw [en]
    exact word_name (by decide) hall hp (fun d r' h => (small_not hy _ d r' h).1)
  have h2 := (small_word hy (by_ nm ++ (by_ y ++ (by_ va ++ (by_ y ++ [])))) (fun c r h => by rw [en] at h; injection h with h _; exact .inl h.symm)).1
  have h1 := (big_word hx (by_ y ++ (by_ nm ++ (by_ y ++ (by_ va ++ (by_ y ++ [])))))).1
  rw [hd] at hall
  rw [show by_ y = by_ y ++ [] from (List.append_nil _).symm] at hall
  simp only [List.append_assoc, List.nil_append] at hall
  rw [allP_word _ _ _ h1, allP_word _ _ _ h2, allP_word _ _ _ h3, allP_word _ _ _ h4, allP_word _ _ _ h5, allP_word _ _ _ h6] at hall
  simp only [sx, sy, bn, bv, List.nil_append, List.cons_append] at hall
  have e : ∀ l a, allP d [] a l = (l, (a : Int), 0) := fun l a => by cases d <;> rfl
  rw [e] at hall
  simp only [show 0 + 2 = 2 by rfl, show 2 + 1 = 3 by rfl, show 3 + nm.size + 1 = 4 + nm.size by omega, show 4 + nm.size + va.size + 1 = 5 + nm.size + va.size by omega, Nat.zero_add] at hall
  exact hall
theorem longest_loop (l2 : List Int) (x y : ByteArray) (hx : x ∈ bigs) (hy : y ∈ smalls) (hw : ∀ x ∈ l2, 0 ≤ x ∧ x ≤ 255) : ∀ (d i : Nat) (nm va : ByteArray), 20 - i = d → i ≤ 20 → NameOf nm → ValOf va → nm.size = i + 1 → va.size = i + 1 →
    Ev (fun k => archivistlaw07_LexLongest.l0 k l2 true x y nm va (i : Int)) true
  | d, i, nm, va, hd, hi, hn, hv, hns, hvs => by
    refine Ev.step (fun _ => rfl) ?_
    simp only [archivistlaw07_LexLongest.l0]
    have hall := longest_all x y nm va hx hy hn hv (by omega) (by omega)
    have sx : x.size = 2 := by rw [← by_length]; exact (big_word hx []).2
    have sy : y.size = 1 := by rw [← by_length]; exact (small_word hy [] (fun c r h => by cases h)).2
    by_cases h1 : i < l2.length
    · by_cases h2 : i < 20
      · match d, hd with
        | 0, hd => omega
        | d + 1, hd =>
          have e1 : wrap64 ((i : Int) + 1) = ((i + 1 : Nat) : Int) := by rw [wrap_in] <;> omega
          obtain ⟨g0, g1⟩ := hw _ (List.getElem_mem (h := h1))
          have hrd : rd l2 (i : Int) = l2[i] := by simp [rd, h1]
          have e2 : Int.tmod l2[i] 10 = ((l2[i].toNat % 10 : Nat) : Int) := by rw [Int.tmod_eq_emod_of_nonneg g0]; omega
          rw [hrd, e2, e1]
          have hs : ∀ j : Fin 10, valC (UInt8.ofNat (bt (⟨#[97, 98, 99, 122, 48, 49, 56, 57, 88, 89]⟩ : ByteArray) ((j.val : Nat) : Int)).toNat) = true := by decide +kernel
          have more : ∀ (s : ByteArray) (c0 : UInt8), (∃ w, by_ s = c0 :: w ∧ ∀ c ∈ w, valC c = true) → ∃ w, by_ (s ++ strOfNums [bt (⟨#[97, 98, 99, 122, 48, 49, 56, 57, 88, 89]⟩ : ByteArray) ((l2[i].toNat % 10 : Nat) : Int)]) = c0 :: w ∧ ∀ c ∈ w, valC c = true := fun s c0 ⟨w, e, hc⟩ => by
            refine ⟨w ++ [UInt8.ofNat (bt (⟨#[97, 98, 99, 122, 48, 49, 56, 57, 88, 89]⟩ : ByteArray) ((l2[i].toNat % 10 : Nat) : Int)).toNat], ?_, ?_⟩
            · rw [by_append, e, by_nums]
              rfl
            · intro c hm
              rw [List.mem_append, List.mem_singleton] at hm
              rcases hm with hm | rfl
              · exact hc c hm
              · exact hs ⟨l2[i].toNat % 10, by omega⟩
          have ih := longest_loop l2 x y hx hy hw d (i + 1) _ _ (by omega) (by omega) (more nm 97 hn) (more va 55 hv) (by rw [ByteArray.size_append, size_nums]; simp; omega) (by rw [ByteArray.size_append, size_nums]; simp; omega)
          exact Ev.pos (by omega) (Ev.pos (by omega) (Ev.pos (by omega) (Ev.pos (by omega) (Ev.pos (by omega) (Ev.one (Ev.pos (by rw [size_nums]; simp; omega) (Ev.pos (by rw [size_nums]; simp; omega) ih)))))))
      · refine Ev.pos (by omega) (Ev.neg (by omega) ?_)
        refine Ev.pos (by omega) (Ev.pos (by simp only [ByteArray.size_append]; omega) (Ev.pos (by simp only [ByteArray.size_append]; omega) (Ev.pos (by simp only [ByteArray.size_append]; omega) (Ev.pos (by simp only [ByteArray.size_append]; omega) (Ev.bind hall (Ev.pos (by trivial) (Ev.pos rfl (Ev.pos ?_ (Ev.pos rfl ?_)))))))))
        · rw [wrap_in (x := (x.size : Int) + 3) (by omega) (by omega), wrap_in (x := (x.size : Int) + 3 + _) (by omega) (by omega), wrap_in (by omega) (by omega)]
          show ((_ : Nat) : Int) = _
          omega
        · refine Ev.pos (show (0 : Int) < ((6 : Nat) : Int) by decide) (Ev.pos (toList_mk x) (Ev.pos (show (1 : Int) < ((6 : Nat) : Int) by decide) (Ev.pos (toList_mk y) (Ev.pos (show (2 : Int) < ((6 : Nat) : Int) by decide) (Ev.pos (toList_mk nm) (Ev.pos rfl (Ev.pos (show (4 : Int) < ((6 : Nat) : Int) by decide) (Ev.pos (toList_mk va) (Ev.pos rfl (Ev.pos (show (5 : Int) < ((6 : Nat) : Int) by decide) (Ev.ret ?_)))))))))))
          rw [beq_iff_eq, wrap_in (by show _ ≤ ((_ : Nat) : Int) - 1; omega) (by show ((_ : Nat) : Int) - 1 ≤ _; omega)]
          show ((_ : Nat) : Int) = ((_ : Nat) : Int) - 1
          omega
    · refine Ev.neg (by omega) ?_
      refine Ev.pos (by omega) (Ev.pos (by simp only [ByteArray.size_append]; omega) (Ev.pos (by simp only [ByteArray.size_append]; omega) (Ev.pos (by simp only [ByteArray.size_append]; omega) (Ev.pos (by simp only [ByteArray.size_append]; omega) (Ev.bind hall (Ev.pos (by trivial) (Ev.pos rfl (Ev.pos ?_ (Ev.pos rfl ?_)))))))))
      · rw [wrap_in (x := (x.size : Int) + 3) (by omega) (by omega), wrap_in (x := (x.size : Int) + 3 + _) (by omega) (by omega), wrap_in (by omega) (by omega)]
        show ((_ : Nat) : Int) = _
        omega
      · refine Ev.pos (show (0 : Int) < ((6 : Nat) : Int) by decide) (Ev.pos (toList_mk x) (Ev.pos (show (1 : Int) < ((6 : Nat) : Int) by decide) (Ev.pos (toList_mk y) (Ev.pos (show (2 : Int) < ((6 : Nat) : Int) by decide) (Ev.pos (toList_mk nm) (Ev.pos rfl (Ev.pos (show (4 : Int) < ((6 : Nat) : Int) by decide) (Ev.pos (toList_mk va) (Ev.pos rfl (Ev.pos (show (5 : Int) < ((6 : Nat) : Int) by decide) (Ev.ret ?_)))))))))))
        rw [beq_iff_eq, wrap_in (by show _ ≤ ((_ : Nat) : Int) - 1; omega) (by show ((_ : Nat) : Int) - 1 ≤ _; omega)]
        show ((_ : Nat) : Int) = ((_ : Nat) : Int) - 1
        omega
theorem rdOf_mem {l : List ByteArray} {i : Nat} (h : i < l.length) : rdOf ByteArray.empty l (i : Int) ∈ l := by
  simp only [rdOf, Int.toNat_natCast, List.getD_eq_getElem?_getD, List.getElem?_eq_getElem h, Option.getD_some]
  exact List.getElem_mem h
theorem LexLongest : archivistlaw07_LexLongest.Pure := by
  intro a0 a1 l2 ha hb _ h1 hw
  refine Ev.rounds ?_
  unfold archivistlaw07_LexLongest.f
  have hu := u8_of_wf (l := [a0]) (by simpa using ha) a0 (by simp)
  have hv := u8_of_wf (l := [a1]) (by simpa using hb) a1 (by simp)
  have e0 : Int.tmod a0 8 = ((a0.toNat % 8 : Nat) : Int) := by rw [Int.tmod_eq_emod_of_nonneg hu.1]; omega
  have e1 : Int.tmod a1 5 = ((a1.toNat % 5 : Nat) : Int) := by rw [Int.tmod_eq_emod_of_nonneg hv.1]; omega
  rw [e0, e1]
  have hl : bigs.length = 8 := rfl
  have hl2 : smalls.length = 5 := rfl
  refine Ev.bind lexExamples_ev (Ev.pos (by trivial) (Ev.one (Ev.pos (by omega) (Ev.pos (show ((a0.toNat % 8 : Nat) : Int) < (bigs.length : Int) by omega) (Ev.one (Ev.pos (by omega) (Ev.pos (show ((a1.toNat % 5 : Nat) : Int) < (smalls.length : Int) by omega) ?_)))))))
  exact longest_loop l2 _ _ (rdOf_mem (by omega)) (rdOf_mem (by omega)) (u8_of_wf hw) 20 0 ⟨#[97]⟩ ⟨#[55]⟩ rfl (by omega) ⟨[], rfl, by simp⟩ ⟨[], rfl, by simp⟩ rfl rfl
end Go.Proofs.Ytifcnblgpnfehaa.Pure
