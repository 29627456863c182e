/-
  The document's merging: what its functions answer, for the seat Ytaehlbbjbeibfaa.
-/
import Derived.Test.YtaehlbbjbeibfaaX14
import Derived.Test.YtaehlbbjbeibfaaX15
import Derived.Test.YtaehlbbjbeibfaaX16
import Derived.Test.YtaehlbbjbeibfaaX17
import Derived.Test.YtaehlbbjbeibfaaX18
import Derived.Test.YtaehlbbjbeibfaaIR
set_option linter.unusedVariables false
set_option linter.unusedSimpArgs false
namespace Go.Proofs.Ytaehlbbjbeibfaa.B
open Go.RowKit Go.Proofs.Ytaehlbbjbeibfaa.X Go.Proofs.Ytaehlbbjbeibfaa.Pure Go.Proofs.YtaehlbbjbeibfaaW.PrintWords Go.Proofs.YtaehlbbjbeibfaaW.PrintLast

theorem rdREnt (l : List Ent) (i : Nat) (h : i < l.length) : rd_T48 (l.map toE) (i : Int) = toE l[i] := by simp [rd_T48, h]
theorem refEntries_loop (l : List Ent) (hl : l.length ≤ 1000) (hok : ∀ q ∈ l, okE q) : ∀ (d i : Nat) (p : List REnt), l.length - i = d → i ≤ l.length → p.length ≤ i →
    Ev (fun k => archivistlaw16_refEntries.l0 k l p (i : Int)) (p ++ (l.drop i).map toE) := by
  intro d
  induction d with
  | zero =>
    intro i p hd hi hp
    refine Ev.step (fun _ => rfl) ?_
    simp only [archivistlaw16_refEntries.l0]
    rw [List.drop_of_length_le (by omega), List.map_nil, List.append_nil]
    exact Ev.neg (by omega) (Ev.now _)
  | succ d ih =>
    intro i p hd hi hp
    have hlt : i < l.length := by omega
    have := ih (i + 1) (p ++ [toE l[i]]) (by omega) (by omega) (by rw [List.length_append]; simp; omega)
    rw [List.append_assoc] at this
    refine Ev.step (fun _ => rfl) ?_
    simp only [archivistlaw16_refEntries.l0]
    rw [rdEnt l i hlt, w1 i (by omega), List.drop_eq_getElem_cons hlt, List.map_cons]
    exact Ev.pos (by omega) (Ev.pos (by omega) (Ev.bind (refEntry_ev l[i] (hok _ (List.getElem_mem hlt))) (Ev.pos (by omega) this)))
theorem refEntries_ev (l : List Ent) (hl : l.length ≤ 1000) (hok : ∀ q ∈ l, okE q) : Ev (fun k => archivistlaw16_refEntries.f k l) (l.map toE) :=
  refEntries_loop l hl hok l.length 0 [] rfl (Nat.zero_le _) (Nat.le_refl _)
/-! ### in order -/
theorem refSorted_loop (asc : Bool) (l : List Ent) (hl : l.length ≤ 1000) (hok : ∀ q ∈ l, okE q) : ∀ (d j : Nat), l.length - j = d →
    Ev (fun k => archivistref13_Sorted.l0 k asc (l.map toE) ((j + 1 : Nat) : Int)) (sortedB asc (l.drop j)) := by
  intro d
  induction d with
  | zero =>
    intro j hd
    refine Ev.step (fun _ => rfl) ?_
    simp only [archivistref13_Sorted.l0]
    rw [List.drop_of_length_le (by omega)]
    exact Ev.neg (by rw [List.length_map]; omega) (Ev.now _)
  | succ d ih =>
    intro j hd
    refine Ev.step (fun _ => rfl) ?_
    simp only [archivistref13_Sorted.l0]
    have hj : j < l.length := by omega
    by_cases h : j + 1 < l.length
    · have hw : wrap64 (((j + 1 : Nat) : Int) - 1) = (j : Int) := by rw [wrap_in] <;> omega
      have ha := refAhead_ev l[j + 1] l[j] asc (hok _ (List.getElem_mem h))
      have ih2 := ih (j + 1) (by omega)
      have e : sortedB asc (l.drop j) = (!ahE asc l[j + 1] l[j] && sortedB asc (l.drop (j + 1))) := by
        rw [List.drop_eq_getElem_cons hj, List.drop_eq_getElem_cons h]
        rfl
      rw [hw, rdREnt l (j + 1) h, rdREnt l j hj, w1 (j + 1) (by omega), e]
      refine Ev.pos (by rw [List.length_map]; omega) (Ev.pos (by omega) (Ev.pos (by omega) (Ev.pos (by rw [List.length_map]; omega) (Ev.bind ha ?_))))
      cases ahE asc l[j + 1] l[j] with
      | true => exact Ev.pos rfl (Ev.now _)
      | false => exact Ev.neg (by simp) ih2
    · have e : sortedB asc (l.drop j) = true := by
        rw [List.drop_eq_getElem_cons hj, List.drop_of_length_le (by omega)]
        rfl
      rw [e]
      exact Ev.neg (by rw [List.length_map]; omega) (Ev.now _)
theorem refSorted_ev (asc : Bool) (l : List Ent) (hl : l.length ≤ 1000) (hok : ∀ q ∈ l, okE q) : Ev (fun k => archivistref13_Sorted.f k asc (l.map toE)) (sortedB asc l) :=
  refSorted_loop asc l hl hok l.length 0 rfl
/-! ### merged -/
theorem up_ins {asc : Bool} {l : List Ent} (h : Up (ahE asc) l) (x : Ent) (m : Nat) (hm : m ≤ l.length) (h1 : ∀ (j : Nat) (hj : j < l.length), m ≤ j → ahE asc x l[j] = true) (h2 : ∀ (j : Nat) (hj : j < l.length), j < m → ahE asc l[j] x = true) : Up (ahE asc) (l.take m ++ [x] ++ l.drop m) := by
  have hs := h
  unfold Up at hs ⊢
  rw [← List.take_append_drop m l, List.pairwise_append] at hs
  rw [List.append_assoc, List.pairwise_append]
  refine ⟨hs.1, ?_, fun a ha b hb => ?_⟩
  · rw [List.singleton_append, List.pairwise_cons]
    refine ⟨fun b hb => ?_, hs.2.1⟩
    obtain ⟨j, hj, rfl⟩ := List.mem_iff_getElem.1 hb
    rw [List.length_drop] at hj
    rw [List.getElem_drop]
    exact h1 (m + j) (by omega) (by omega)
  · rcases List.mem_cons.1 (by simpa using hb : b ∈ x :: l.drop m) with rfl | hb
    · obtain ⟨j, hj, rfl⟩ := List.mem_iff_getElem.1 ha
      rw [List.length_take] at hj
      rw [List.getElem_take]
      exact h2 j (by omega) (by omega)
    · exact hs.2.2 a ha b hb
theorem take_mn (l : List REnt) (most : Int) : 0 ≤ mn (l.length : Int) (mx most 0) ∧ mn (l.length : Int) (mx most 0) ≤ (l.length : Int) ∧ l.take (mn (l.length : Int) (mx most 0)).toNat = l.take most.toNat := by
  unfold mn mx
  by_cases h0 : most < 0
  · rw [if_pos h0]
    have e : most.toNat = 0 := by omega
    rw [e]
    by_cases h1 : (0 : Int) < (l.length : Int)
    · rw [if_pos h1]
      exact ⟨by omega, by omega, rfl⟩
    · rw [if_neg h1]
      have : l = [] := List.length_eq_zero_iff.1 (by omega)
      subst this
      exact ⟨by omega, by omega, rfl⟩
  · rw [if_neg h0]
    by_cases h1 : most < (l.length : Int)
    · rw [if_pos h1]
      exact ⟨by omega, by omega, rfl⟩
    · rw [if_neg h1]
      exact ⟨by omega, by omega, by rw [List.take_of_length_le (by omega), List.take_of_length_le (by omega)]⟩
theorem refAll_l1 (asc : Bool) (most : Int) (all : List Ent) (hn : all.length ≤ 1000) (hok : ∀ q ∈ all, okE q) : ∀ (d i : Nat) (out : List Ent), all.length - i = d → i ≤ all.length → Up (ahE asc) out → (∀ z, z ∈ out ↔ z ∈ all.take i) → out.length ≤ i →
    Ev (fun k => archivistref16_All.l1 k asc most (all.map toE) (out.map toE) (i : Int)) (((canon (ahE asc) all).take most.toNat).map toE, true) := by
  intro d
  induction d with
  | zero =>
    intro i out hd hi hu hm hl
    rw [List.take_of_length_le (by omega)] at hm
    rw [canon_of (totE asc) hu hm]
    obtain ⟨t1, t2, t3⟩ := take_mn (out.map toE) most
    refine Ev.step (fun _ => rfl) ?_
    simp only [archivistref16_All.l1]
    exact Ev.neg (by rw [List.length_map]; omega) (Ev.pos t1 (Ev.pos t2 (Ev.ret (by rw [t3, List.map_take]))))
  | succ d ih =>
    intro i out hd hi hu hm hl
    have hlt : i < all.length := by omega
    have hxo := hok all[i] (List.getElem_mem hlt)
    have hq : ∀ q ∈ out, okE q := fun q hq => hok q (List.mem_of_mem_take ((hm q).1 hq))
    have hm2 : ∀ z, z ∈ all.take (i + 1) ↔ z ∈ out ∨ z = all[i] := fun z => by
      rw [List.take_succ_eq_append_getElem hlt, List.mem_append, List.mem_singleton, hm z]
    have O := totE asc
    have ins : ∀ (m : Nat), m ≤ out.length → (∀ (j : Nat) (hj : j < out.length), m ≤ j → ahE asc all[i] out[j] = true) → (∀ (j : Nat) (hj : j < out.length), j < m → ahE asc out[j] all[i] = true) →
        Ev (fun k => archivistref16_All.l1 k asc most (all.map toE) ((out.map toE).take m ++ [toE all[i]] ++ (out.map toE).drop m) ((i + 1 : Nat) : Int)) (((canon (ahE asc) all).take most.toNat).map toE, true) := by
      intro m hm' h1 h2
      have := ih (i + 1) (out.take m ++ [all[i]] ++ out.drop m) (by omega) (by omega) (up_ins hu all[i] m hm' h1 h2) (fun z => by
        rw [hm2 z, List.mem_append, List.mem_append, List.mem_singleton]
        have : z ∈ out ↔ z ∈ out.take m ∨ z ∈ out.drop m := by rw [← List.mem_append, List.take_append_drop]
        rw [this]
        constructor
        · rintro ((h | h) | h)
          · exact .inl (.inl h)
          · exact .inr h
          · exact .inl (.inr h)
        · rintro ((h | h) | h)
          · exact .inl (.inl h)
          · exact .inr h
          · exact .inl (.inr h)) (by rw [List.length_append, List.length_append, List.length_take, List.length_drop]; simp only [List.length_singleton]; omega)
      rwa [List.map_append, List.map_append, List.map_take, List.map_drop] at this
    have loop : ∀ (m : Nat), m ≤ out.length → (∀ (j : Nat) (hj : j < out.length), m ≤ j → ahE asc all[i] out[j] = true) →
        Ev (fun k => archivistref16_All.l2 k asc most (all.map toE) (out.map toE) (i : Int) (m : Int)) (((canon (ahE asc) all).take most.toNat).map toE, true) := by
      intro m
      induction m with
      | zero =>
        intro hm' h1
        have hins := ins 0 hm' h1 (fun j _ hj => absurd hj (Nat.not_lt_zero _))
        refine Ev.step (fun _ => rfl) ?_
        simp only [archivistref16_All.l2]
        rw [rdREnt all i hlt, w1 i (by omega)]
        refine Ev.neg (by omega) (Ev.pos (by omega) (Ev.pos (by omega) (Ev.one (Ev.pos (by simp) (Ev.one (Ev.pos (by omega) (Ev.pos (by rw [List.length_map]; omega) (Ev.pos (by simp) (Ev.one (Ev.one (Ev.pos (by simp; omega) ?_)))))))))))
        exact hins
      | succ m ihm =>
        intro hm' h1
        have hml : m < out.length := by omega
        have hw : wrap64 (((m + 1 : Nat) : Int) - 1) = (m : Int) := by rw [wrap_in] <;> omega
        have hah := refAhead_ev all[i] out[m] asc hxo
        have hor := refOrderE_ev all[i] out[m] hxo
        cases hb : ahE asc all[i] out[m] with
        | true =>
          have g3 := ihm (by omega) (fun j hj hmj => by
            rcases Nat.lt_or_ge m j with h | h
            · exact h1 j hj (by omega)
            · obtain rfl : j = m := by omega
              exact hb)
          refine Ev.step (fun _ => rfl) ?_
          simp only [archivistref16_All.l2]
          rw [hw, rdREnt all i hlt, rdREnt out m hml, w1 i (by omega)]
          rw [hb] at hah
          exact Ev.pos (by omega) (Ev.pos (by omega) (Ev.pos (by rw [List.length_map]; omega) (Ev.pos (by omega) (Ev.pos (by rw [List.length_map]; omega) (Ev.bind hah (Ev.pos rfl g3))))))
        | false =>
          refine Ev.step (fun _ => rfl) ?_
          simp only [archivistref16_All.l2]
          rw [hw, rdREnt all i hlt, rdREnt out m hml, w1 i (by omega)]
          rw [hb] at hah
          refine Ev.pos (by omega) (Ev.pos (by omega) (Ev.pos (by rw [List.length_map]; omega) (Ev.pos (by omega) (Ev.pos (by rw [List.length_map]; omega) (Ev.bind hah (Ev.neg (by simp) (Ev.bind hor ?_)))))))
          by_cases h0 : ordE all[i] out[m] = 0
          · have e := (ordE_stands.eq all[i] out[m]).1 h0
            refine Ev.pos h0 (ih (i + 1) out (by omega) (by omega) hu (fun z => ?_) (by omega))
            rw [hm2 z]
            constructor
            · exact .inl
            · rintro (h | h)
              · exact h
              · rw [h, e]
                exact List.getElem_mem hml
          · have hne : all[i] ≠ out[m] := fun e => h0 ((ordE_stands.eq all[i] out[m]).2 e)
            have hgt : ahE asc out[m] all[i] = true := by
              cases hc : ahE asc out[m] all[i] with
              | true => rfl
              | false => exact absurd (O.eq _ _ hb hc) hne
            have hins := ins (m + 1) hm' h1 (fun j hj hjm => by
              by_cases e : j = m
              · subst e
                exact hgt
              · exact O.tr (List.pairwise_iff_getElem.1 hu j m hj hml (by omega)) hgt)
            refine Ev.neg h0 (Ev.pos (by omega) (Ev.pos (by rw [List.length_map]; omega) (Ev.one (Ev.pos (by simp; omega) (Ev.one (Ev.pos (by simp; omega) (Ev.one (Ev.one (Ev.pos (by simp; omega) ?_)))))))))
            exact hins
    have g3 := loop out.length (Nat.le_refl _) (fun j hj h => absurd hj (by omega))
    refine Ev.step (fun _ => rfl) ?_
    simp only [archivistref16_All.l1]
    rw [show ((out.map toE).length : Int) = (out.length : Int) by rw [List.length_map]]
    exact Ev.pos (by rw [List.length_map]; omega) g3
theorem rdRows (ls : List (List Ent)) (i : Nat) (h : i < ls.length) : rd_L14 (ls.map (List.map toE)) (i : Int) = ls[i].map toE := by simp [rd_L14, h]
theorem refAll_l0 (asc : Bool) (most : Int) (ls : List (List Ent)) (h1 : ls.length ≤ 1000) (h2 : ls.flatten.length ≤ 1000) (hok : ∀ l ∈ ls, ∀ q ∈ l, okE q) : ∀ (d i : Nat), ls.length - i = d → i ≤ ls.length →
    Ev (fun k => archivistref16_All.l0 k asc most (ls.map (List.map toE)) ((ls.take i).flatten.map toE) (i : Int)) (if (ls.drop i).all (sortedB asc) = true then (((canon (ahE asc) ls.flatten).take most.toNat).map toE, true) else ([], false)) := by
  intro d
  induction d with
  | zero =>
    intro i hd hi
    rw [List.drop_of_length_le (by omega), List.take_of_length_le (by omega), if_pos (by rfl)]
    refine Ev.step (fun _ => rfl) ?_
    simp only [archivistref16_All.l0]
    refine Ev.neg (by rw [List.length_map]; omega) (refAll_l1 asc most ls.flatten h2 (fun q hq => ?_) ls.flatten.length 0 [] rfl (Nat.zero_le _) List.Pairwise.nil (fun z => by rw [List.take_zero]) (Nat.le_refl _))
    obtain ⟨l, hl, h⟩ := List.mem_flatten.1 hq
    exact hok l hl q h
  | succ d ih =>
    intro i hd hi
    have hlt : i < ls.length := by omega
    have hmem := List.getElem_mem hlt
    have e1 : (ls.take (i + 1)).flatten = (ls.take i).flatten ++ ls[i] := by rw [List.take_succ_eq_append_getElem hlt, List.flatten_append]; simp
    have hle : (ls.take (i + 1)).flatten.length ≤ 1000 := by
      have : ls.flatten.length = (ls.take (i + 1)).flatten.length + (ls.drop (i + 1)).flatten.length := by rw [← List.length_append, ← List.flatten_append, List.take_append_drop]
      omega
    rw [e1, List.length_append] at hle
    have hs := refSorted_ev asc ls[i] (by omega) (hok _ hmem)
    have ih2 := ih (i + 1) (by omega) (by omega)
    rw [e1, List.map_append] at ih2
    refine Ev.step (fun _ => rfl) ?_
    simp only [archivistref16_All.l0]
    rw [rdRows ls i hlt, w1 i (by omega), List.drop_eq_getElem_cons hlt, List.all_cons]
    refine Ev.pos (by rw [List.length_map]; omega) (Ev.pos (by omega) (Ev.bind hs ?_))
    cases sortedB asc ls[i] with
    | true => exact Ev.pos rfl (Ev.pos (by rw [List.length_map, List.length_map]; omega) (by simpa using ih2))
    | false => exact Ev.neg (by simp) (Ev.now _)
theorem refAll_ev (asc : Bool) (most : Int) (ls : List (List Ent)) (h1 : ls.length ≤ 1000) (h2 : ls.flatten.length ≤ 1000) (hok : ∀ l ∈ ls, ∀ q ∈ l, okE q) : Ev (fun k => archivistref16_All.f k asc most (ls.map (List.map toE))) ((allE asc most ls).1.map toE, (allE asc most ls).2) := by
  have := refAll_l0 asc most ls h1 h2 hok ls.length 0 rfl (Nat.zero_le _)
  rw [List.drop_zero] at this
  unfold allE
  split
  · rename_i h
    rw [if_pos h] at this
    exact this
  · rename_i h
    rw [if_neg h] at this
    exact this
/-! ### the first one; those up to an end -/
theorem refFirst_l0 (asc : Bool) (l : List Ent) (hl : l.length ≤ 1000) (hok : ∀ q ∈ l, okE q) : ∀ (d i : Nat) (x : Ent), l.length - i = d → i ≤ l.length →
    Ev (fun k => archivistref16_First.l0 k asc (l.map toE) d (toE x) i) (toE ((l.drop i).foldl (fun b y => if ahE asc y b = true then y else b) x)) := by
  intro d
  induction d with
  | zero =>
    intro i x hd hi
    rw [List.drop_of_length_le (by omega)]
    simp only [archivistref16_First.l0]
    exact Ev.now _
  | succ d ih =>
    intro i x hd hi
    have hlt : i < l.length := by omega
    have ha := refAhead_ev l[i] x asc (hok _ (List.getElem_mem hlt))
    simp only [archivistref16_First.l0]
    rw [rdREnt l i hlt, List.drop_eq_getElem_cons hlt, List.foldl_cons]
    refine Ev.bind ha ?_
    have := ih (i + 1) (if ahE asc l[i] x = true then l[i] else x) (by omega) (by omega)
    rwa [apply_ite toE] at this
theorem refFirst_ev (asc : Bool) (l : List Ent) (hl : l.length ≤ 1000) (hok : ∀ q ∈ l, okE q) : Ev (fun k => archivistref16_First.f k asc (l.map toE)) ((toE (firstE asc l)).f0, (toE (firstE asc l)).f1, (toE (firstE asc l)).f2, !l.isEmpty) := by
  unfold archivistref16_First.f
  cases l with
  | nil => exact Ev.pos rfl (Ev.now _)
  | cons x t =>
    refine Ev.neg (by simp) ?_
    have := refFirst_l0 asc (x :: t) hl hok t.length 1 x (by simp) (by simp)
    rw [show (List.map toE (x :: t)).length - 1 = t.length by simp, show rd_T48 (List.map toE (x :: t)) 0 = toE x from rfl]
    exact Ev.bind this (Ev.now _)
theorem refUpto_loop (asc : Bool) (e : Ent) (l : List Ent) (he : okE e) (hn : l.length ≤ 1000) : ∀ (d i : Nat) (p : List REnt), l.length - i = d → i ≤ l.length → p.length ≤ i →
    Ev (fun k => archivistref16_Upto.l0 k asc (l.map toE) p (i : Int) e.f0 (e.f1.map toR) e.f2) (p ++ ((l.drop i).filter fun x => !ahE asc e x).map toE) := by
  intro d
  induction d with
  | zero =>
    intro i p hd hi hp
    refine Ev.step (fun _ => rfl) ?_
    simp only [archivistref16_Upto.l0]
    rw [List.drop_of_length_le (by omega), List.filter_nil, List.map_nil, List.append_nil]
    exact Ev.neg (by rw [List.length_map]; omega) (Ev.now _)
  | succ d ih =>
    intro i p hd hi hp
    have hlt : i < l.length := by omega
    have ha := refAhead_ev e l[i] asc he
    refine Ev.step (fun _ => rfl) ?_
    simp only [archivistref16_Upto.l0]
    rw [rdREnt l i hlt, w1 i (by omega), List.drop_eq_getElem_cons hlt]
    cases hb : ahE asc e l[i] with
    | true =>
      rw [hb] at ha
      rw [List.filter_cons_of_neg (by rw [hb]; simp)]
      exact Ev.pos (by rw [List.length_map]; omega) (Ev.pos (by omega) (Ev.bind ha (Ev.pos rfl (ih (i + 1) p (by omega) (by omega) (by omega)))))
    | false =>
      rw [hb] at ha
      rw [List.filter_cons_of_pos (by rw [hb]; simp), List.map_cons]
      have := ih (i + 1) (p ++ [toE l[i]]) (by omega) (by omega) (by rw [List.length_append]; simp; omega)
      rw [List.append_assoc] at this
      exact Ev.pos (by rw [List.length_map]; omega) (Ev.pos (by omega) (Ev.bind ha (Ev.neg (by simp) (Ev.pos (by omega) this))))
theorem refUpto_ev (asc : Bool) (e : Ent) (l : List Ent) (he : okE e) (hn : l.length ≤ 1000) : Ev (fun k => archivistref16_Upto.f k asc e.f0 (e.f1.map toR) e.f2 (l.map toE)) ((l.filter fun x => !ahE asc e x).map toE) :=
  refUpto_loop asc e l he hn l.length 0 [] rfl (Nat.zero_le _) (Nat.le_refl _)
/-! ### the same -/
theorem sameEntry_ev (x : Ent) (hx : okE x) : Ev (fun k => archivistlaw16_sameEntry.f k x.f0 x.f1 x.f2 (toE x).f0 (toE x).f1 (toE x).f2) true := by
  unfold archivistlaw16_sameEntry.f
  exact Ev.bind (samePairs_ev x.f1 x.f1 hx) (Ev.pos (decide_eq_true rfl) (Ev.pos rfl (Ev.ret (beq_self_eq_true _))))
theorem sameEntries_loop (l : List Ent) (hl : l.length ≤ 1000) (hok : ∀ q ∈ l, okE q) : ∀ (d i : Nat), l.length - i = d → i ≤ l.length →
    Ev (fun k => archivistlaw16_sameEntries.l0 k l (l.map toE) (i : Int)) true := by
  intro d
  induction d with
  | zero =>
    intro i hd hi
    refine Ev.step (fun _ => rfl) ?_
    simp only [archivistlaw16_sameEntries.l0]
    exact Ev.neg (by omega) (Ev.now _)
  | succ d ih =>
    intro i hd hi
    have hlt : i < l.length := by omega
    refine Ev.step (fun _ => rfl) ?_
    simp only [archivistlaw16_sameEntries.l0]
    rw [rdEnt l i hlt, rdREnt l i hlt, w1 i (by omega)]
    exact Ev.pos (by omega) (Ev.pos (by omega) (Ev.pos (by rw [List.length_map]; omega) (Ev.bind (sameEntry_ev l[i] (hok _ (List.getElem_mem hlt))) (Ev.pos rfl (ih (i + 1) (by omega) (by omega))))))
theorem sameEntries_ev (l : List Ent) (hl : l.length ≤ 1000) (hok : ∀ q ∈ l, okE q) : Ev (fun k => archivistlaw16_sameEntries.f k l (l.map toE)) true := by
  unfold archivistlaw16_sameEntries.f
  exact Ev.pos (by rw [List.length_map]) (sameEntries_loop l hl hok l.length 0 rfl (Nat.zero_le _))
end Go.Proofs.Ytaehlbbjbeibfaa.B
