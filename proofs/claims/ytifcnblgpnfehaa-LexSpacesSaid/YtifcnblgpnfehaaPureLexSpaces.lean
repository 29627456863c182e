/-
  The law of the spaces between words, for the seat Ytifcnblgpnfehaa.
-/
import Derived.Test.YtifcnblgpnfehaaX23
import Derived.Test.YtifcnblgpnfehaaS
set_option linter.unusedVariables false
set_option linter.unusedSimpArgs false
namespace Go.Proofs.Ytifcnblgpnfehaa.Pure
open Go.RowKit Go.Proofs.Ytifcnblgpnfehaa.X Go.Proofs.Ytifcnblgpnfehaa.B Go.Proofs.YtifcnblgpnfehaaW.PrintWords Go.Proofs.YtifcnblgpnfehaaW.PrintLast

theorem spaces_same (l : List S33) (n : Nat) (hn : n ≤ 20) (hl : l.length ≤ 240) (hw : ∀ i (h : i < l.length), 0 ≤ l[i].f2 ∧ l[i].f2 < 240) : ∀ (d i : Nat), l.length - i = d → i ≤ l.length →
    Ev (fun k => archivistlaw07_LexSpaces.l1 k true l (n : Int) (l.map (shT n)) (i : Int)) true
  | d, i, hd, hi => by
    refine Ev.step (fun _ => rfl) ?_
    simp only [archivistlaw07_LexSpaces.l1]
    by_cases hlt : i < l.length
    · match d, hd with
      | 0, hd => omega
      | d + 1, hd =>
        have ih := spaces_same l n hn hl hw d (i + 1) (by omega) (by omega)
        have e1 : wrap64 ((i : Int) + 1) = ((i + 1 : Nat) : Int) := by rw [wrap_in] <;> omega
        have hr : rd_T33 l (i : Int) = l[i] := by simp [rd_T33, hlt]
        have hr2 : rd_T33 (l.map (shT n)) (i : Int) = shT n l[i] := by simp [rd_T33, hlt]
        obtain ⟨g1, g2⟩ := hw i hlt
        rw [e1, hr, hr2, List.length_map]
        refine Ev.pos (by omega) (Ev.pos (by omega) (Ev.pos (by omega) (Ev.pos rfl (Ev.pos rfl (Ev.pos ?_ ih)))))
        rw [wrap_in (by omega) (by omega)]
        rfl
    · exact Ev.neg (by omega) (Ev.ret rfl)
theorem spaces_end (t x : ByteArray) (n : Nat) (hn : n < 20) (ht : t.size ≤ 240) (hx : ∀ c ∈ by_ x, spC c = true) (hxn : x.size = n) :
    Ev (fun k => if x.size + t.size ≤ 9223372036854775807 then (if (x ++ t).size + x.size ≤ 9223372036854775807 then ((lex_All.f k ((x ++ t) ++ x)).bind fun bt430 => (if bt430.2.2 = (allP t.size (by_ t) 0 []).2.2 then (if ((allP t.size (by_ t) 0 []).1.length : Int) = (bt430.1.length : Int) then (if (allP t.size (by_ t) 0 []).2.2 = 0 then (archivistlaw07_LexSpaces.j1 k true (allP t.size (by_ t) 0 []).1 (n : Int) bt430.1 (bt430.2.1 != (wrap64 ((t.size : Int) + (wrap64 (2 * (n : Int))))))) else (if bt430.2.1 = (wrap64 ((allP t.size (by_ t) 0 []).2.1 + (n : Int))) then (archivistlaw07_LexSpaces.j1 k true (allP t.size (by_ t) 0 []).1 (n : Int) bt430.1 false) else (archivistlaw07_LexSpaces.j1 k true (allP t.size (by_ t) 0 []).1 (n : Int) bt430.1 true))) else (archivistlaw07_LexSpaces.j1 k true (allP t.size (by_ t) 0 []).1 (n : Int) bt430.1 true)) else (archivistlaw07_LexSpaces.j1 k true (allP t.size (by_ t) 0 []).1 (n : Int) bt430.1 true))) else (none)) else (none)) true := by
  have hb := by_length t
  have hbx := by_length x
  have hz : ((x ++ t) ++ x).size = t.size + n + n := by simp only [ByteArray.size_append]; omega
  have hall := all_ev ((x ++ t) ++ x)
  rw [if_neg (by omega)] at hall
  have e : allP ((x ++ t) ++ x).size (by_ ((x ++ t) ++ x)) 0 [] = behI n ((allP t.size (by_ t) 0 []).1.map (shT n), (allP t.size (by_ t) 0 []).2.1 + n, (allP t.size (by_ t) 0 []).2.2) := by
    rw [hz, by_append, by_append, List.append_assoc]
    have h1 := allP_skip (t.size + n) (by_ x) (by_ t ++ by_ x) 0 [] hx
    rw [hbx, hxn] at h1
    rw [h1, allP_behind _ _ _ _ _ (by omega) hx, hbx, hxn, allP_fuel (t.size + n) t.size _ _ _ (by omega) (by omega)]
    exact congrArg (behI n) (allP_shift n t.size (by_ t) 0 [])
  rw [e] at hall
  have hq := allP_ok t.size (by_ t) 0 [] (by omega) ⟨fun i h => by simp at h, fun i h => by simp at h⟩
  obtain ⟨q, hqq⟩ : ∃ q, allP t.size (by_ t) 0 [] = q := ⟨_, rfl⟩
  rw [hqq] at hq hall ⊢
  obtain ⟨l, a, e⟩ := q
  have fin : l.length ≤ 240 → (∀ i (h : i < l.length), 0 ≤ l[i].f2 ∧ l[i].f2 < 240) → Ev (fun k => archivistlaw07_LexSpaces.j1 k true l (n : Int) (l.map (shT n)) false) true := fun h1 h2 => by
    refine Ev.step (fun _ => rfl) ?_
    simp only [archivistlaw07_LexSpaces.j1]
    exact Ev.neg (by decide) (spaces_same l n (by omega) h1 h2 l.length 0 rfl (by omega))
  refine Ev.pos (by omega) (Ev.pos (by rw [ByteArray.size_append]; omega) (Ev.bind hall ?_))
  rcases hq with ⟨h1, h2, h3⟩ | ⟨h1, h2, h3, h4⟩
  · dsimp only at h1 h2 h3
    subst h1
    have hl := good_len h3
    refine Ev.pos rfl (Ev.pos (by simp [behI]) (Ev.pos rfl ?_))
    have e0 : ((behI n (l.map (shT n), a + n, 0)).2.1 != (wrap64 ((t.size : Int) + (wrap64 (2 * (n : Int)))))) = false := by
      rw [wrap_in (x := 2 * (n : Int)) (by omega) (by omega), wrap_in (by omega) (by omega), h2]
      simp [behI]
      omega
    rw [e0]
    exact fin (by omega) fun i hi => by
      have := h3.1 i hi
      omega
  · dsimp only at h1 h2 h3 h4
    subst h1
    subst h2
    refine Ev.pos rfl (Ev.pos (by simp [behI]) (Ev.neg (by show ¬ (2 : Int) = 0; decide) (Ev.pos ?_ ?_)))
    · dsimp only
      rw [wrap_in (by omega) (by omega)]
      rfl
    · exact fin (by simp) fun i hi => by simp at hi
theorem spaces_loop (t : ByteArray) (n : Nat) (hn : n < 20) (ht : t.size ≤ 240) : ∀ (d i : Nat) (x : ByteArray), n - i = d → i ≤ n → (∀ c ∈ by_ x, spC c = true) → x.size = i →
    Ev (fun k => archivistlaw07_LexSpaces.l0 k true t (allP t.size (by_ t) 0 []).1 (allP t.size (by_ t) 0 []).2.1 (allP t.size (by_ t) 0 []).2.2 (n : Int) x (i : Int)) true
  | d, i, x, hd, hi, hx, hxi => by
    refine Ev.step (fun _ => rfl) ?_
    simp only [archivistlaw07_LexSpaces.l0]
    by_cases hlt : i < n
    · match d, hd with
      | 0, hd => omega
      | d + 1, hd =>
        have e1 : wrap64 ((i : Int) + 1) = ((i + 1 : Nat) : Int) := by rw [wrap_in] <;> omega
        have e2 : Int.tmod (i : Int) 3 = ((i % 3 : Nat) : Int) := by rw [Int.tmod_eq_emod_of_nonneg (by omega)]; omega
        rw [e2, e1]
        refine Ev.pos (by omega) (Ev.pos (by omega) (Ev.pos (by omega) (Ev.one (Ev.pos (by rw [size_nums]; simp; omega) ?_))))
        have hs : ∀ j : Fin 3, spC (UInt8.ofNat (bt (⟨#[32, 9, 10]⟩ : ByteArray) ((j.val : Nat) : Int)).toNat) = true := by decide +kernel
        refine spaces_loop t n hn ht d (i + 1) _ (by omega) (by omega) ?_ ?_
        · intro c hc
          rw [by_append, List.mem_append] at hc
          rcases hc with hc | hc
          · exact hx c hc
          · rw [by_nums] at hc
            simp only [List.map_cons, List.map_nil, List.mem_singleton] at hc
            rw [hc]
            exact hs ⟨i % 3, by omega⟩
        · rw [ByteArray.size_append, size_nums]
          simp
          omega
    · have : i = n := by omega
      exact Ev.neg (by omega) (spaces_end t x n hn ht hx (by omega))
theorem LexSpaces : archivistlaw07_LexSpaces.Pure := by
  intro l0 a1 _ h1 hw ha
  refine Ev.rounds ?_
  unfold archivistlaw07_LexSpaces.f
  refine Ev.bind lexExamples_ev (Ev.pos (by trivial) ?_)
  obtain ⟨t, ht, hev⟩ := words_ev l0 (by omega) hw
  have hall := all_ev t
  rw [if_neg (by omega)] at hall
  refine Ev.bind hev (Ev.bind hall ?_)
  have hu := u8_of_wf (l := [a1]) (by simpa using ha) a1 (by simp)
  have e : wrap64 (Int.tmod a1 20) = (((a1.toNat % 20 : Nat)) : Int) := by
    rw [Int.tmod_eq_emod_of_nonneg hu.1, wrap_in] <;> omega
  rw [e]
  exact spaces_loop t (a1.toNat % 20) (by omega) ht _ 0 ⟨#[]⟩ rfl (by omega) (fun c hc => by simp [by_] at hc) rfl
end Go.Proofs.Ytifcnblgpnfehaa.Pure
