/-
  The law of what is joined, found and cut, held against the document's answer, for the seat Ytifcnblgpnfehaa.
-/
import Derived.Test.YtifcnblgpnfehaaX10
import Derived.Test.YtifcnblgpnfehaaX9
import Derived.Test.YtifcnblgpnfehaaRwQuoteParts
import Derived.Test.YtifcnblgpnfehaaC
set_option linter.unusedVariables false
set_option linter.unusedSimpArgs false
namespace Go.Proofs.Ytifcnblgpnfehaa.Pure
open Go.RowKit Go.Proofs.Ytifcnblgpnfehaa.X Go.Proofs.Ytifcnblgpnfehaa.B Go.Proofs.YtifcnblgpnfehaaW.PrintWords Go.Proofs.YtifcnblgpnfehaaW.PrintLast

theorem refAmong_loop (l : List ByteArray) (s : ByteArray) (hl : l.length ≤ 1048576) : ∀ (d i : Nat), l.length - i = d → i ≤ l.length →
    Ev (fun k => archivistref01_Among.l0 k s l (i : Int)) (amI s (l.drop i) i)
  | 0, i, hd, hi => by
    refine Ev.step (fun _ => rfl) ?_
    simp only [archivistref01_Among.l0]
    rw [List.drop_of_length_le (by omega)]
    exact Ev.neg (by omega) (Ev.now _)
  | d + 1, i, hd, hi => by
    have hlt : i < l.length := by omega
    have ih := refAmong_loop l s hl d (i + 1) (by omega) (by omega)
    refine Ev.step (fun _ => rfl) ?_
    simp only [archivistref01_Among.l0]
    rw [w1 i (by omega), rdS l i hlt, List.drop_eq_getElem_cons hlt]
    refine Ev.pos (by omega) (Ev.pos (by omega) ?_)
    simp only [amI]
    by_cases h : l[i].toList = s.toList
    · rw [if_pos h.symm]
      exact Ev.pos h (Ev.now _)
    · rw [if_neg (fun e => h e.symm)]
      exact Ev.neg h ih
def total' (L : List ByteArray) : Nat := (L.map ByteArray.size).sum
theorem total_app (A B : List ByteArray) : total' (A ++ B) = total' A + total' B := by simp [total']
theorem total_take (L : List ByteArray) (i : Nat) (h : i < L.length) : total' (L.take (i + 1)) = total' (L.take i) + L[i].size := by
  rw [List.take_succ_eq_append_getElem h, total_app]
  simp [total']
theorem total_all (L : List ByteArray) (i : Nat) : total' (L.take i) ≤ total' L := by
  have h : total' L = total' (L.take i) + total' (L.drop i) := by
    rw [← total_app, List.take_append_drop]
  omega
theorem joinP_drop (sep : List UInt8) (L : List ByteArray) (i : Nat) (h : i < L.length) (h0 : 0 < i) :
    joinP sep ((L.take (i + 1)).map by_) = joinP sep ((L.take i).map by_) ++ sep ++ by_ L[i] := by
  have go : ∀ (M : List (List UInt8)) (x : List UInt8), M ≠ [] → joinP sep (M ++ [x]) = joinP sep M ++ sep ++ x := fun M x => by
    induction M with
    | nil => intro h; exact absurd rfl h
    | cons y M ih =>
      intro _
      cases M with
      | nil => rw [List.singleton_append, joinP_cons, joinP_one, joinP_one]
      | cons z M =>
        have h1 := ih (by simp)
        rw [List.cons_append] at h1
        rw [List.cons_append, List.cons_append, joinP_cons, h1, joinP_cons]
        simp only [List.append_assoc]
  rw [List.take_succ_eq_append_getElem h, List.map_append]
  refine go _ _ ?_
  intro e
  have := congrArg List.length e
  rw [List.length_map, List.length_take, List.length_nil] at this
  omega
theorem join_bound (s : ByteArray) (L : List ByteArray) : ∀ i, i ≤ L.length → (joinP (by_ s) ((L.take i).map by_)).length ≤ total' (L.take i) + i * s.size
  | 0, _ => by simp [joinP_nil, total']
  | i + 1, h => by
    have ih := join_bound s L i (by omega)
    rw [total_take L i (by omega)]
    by_cases h0 : 0 < i
    · rw [joinP_drop _ L i (by omega) h0, List.length_append, List.length_append, by_length, by_length, Nat.add_mul, Nat.one_mul]
      omega
    · have : i = 0 := by omega
      subst this
      have e : L.take 1 = [L[0]] := by rw [List.take_succ_eq_append_getElem (by omega)]; simp
      rw [e, List.map_cons, List.map_nil, joinP_one, by_length]
      omega
theorem refJoin_loop (s : ByteArray) (hs : s.size ≤ 1048576) (L : List ByteArray) (hL : L.length ≤ 1048576) (ht : total' L ≤ 1048576) : ∀ (d i : Nat), L.length - i = d → i ≤ L.length →
    Ev (fun k => archivistref01_Join.l0 k s L ⟨(joinP (by_ s) ((L.take i).map by_)).toArray⟩ (i : Int)) ⟨(joinP (by_ s) (L.map by_)).toArray⟩ := by
  intro d
  induction d with
  | zero =>
    intro i hd hi
    refine Ev.step (fun _ => rfl) ?_
    simp only [archivistref01_Join.l0]
    rw [List.take_of_length_le (by omega)]
    exact Ev.neg (by omega) (Ev.now _)
  | succ d ih =>
    intro i hd hi
    have hlt : i < L.length := by omega
    have ih' := ih (i + 1) (by omega) (by omega)
    have hb := join_bound s L i (by omega)
    have h1 := total_all L i
    have h2 := total_all L (i + 1)
    rw [total_take L i hlt] at h2
    have h3 : i * s.size ≤ 1048576 * 1048576 := Nat.mul_le_mul (by omega) hs
    obtain ⟨x, hx⟩ : ∃ x, L[i] = x := ⟨_, rfl⟩
    obtain ⟨acc, hacc⟩ : ∃ acc : ByteArray, acc = ⟨(joinP (by_ s) ((L.take i).map by_)).toArray⟩ := ⟨_, rfl⟩
    have hba : by_ acc = joinP (by_ s) ((L.take i).map by_) := by rw [hacc, by_mk]
    have hsz : acc.size ≤ 1099513724928 := by rw [← by_length, hba]; omega
    refine Ev.step (fun _ => rfl) ?_
    simp only [archivistref01_Join.l0]
    rw [show wrap64 ((i : Int) + 1) = ((i + 1 : Nat) : Int) by rw [wrap_in] <;> omega, rdS L i hlt, hx, ← hacc]
    rw [hx] at h2
    refine Ev.pos (by omega) ?_
    by_cases h0 : 0 < i
    · have e : (⟨(joinP (by_ s) ((L.take (i + 1)).map by_)).toArray⟩ : ByteArray) = acc ++ s ++ x := by
        apply by_ext
        rw [by_mk, by_append, by_append, hba, joinP_drop _ L i hlt h0, hx]
      rw [e] at ih'
      exact Ev.pos (by omega) (Ev.pos (by omega) (Ev.pos (by omega) (Ev.pos (by rw [ByteArray.size_append]; omega) ih')))
    · have hi0 : i = 0 := by omega
      subst hi0
      have e : (⟨(joinP (by_ s) ((L.take (0 + 1)).map by_)).toArray⟩ : ByteArray) = acc ++ x := by
        apply by_ext
        rw [by_mk, by_append, hba, List.take_succ_eq_append_getElem hlt]
        simp [joinP_one, joinP_nil, hx]
      rw [e] at ih'
      exact Ev.neg (by omega) (Ev.pos (by omega) (Ev.pos (by omega) ih'))
theorem refCut_scan (s : ByteArray) (hs : s.size ≤ 8388608) (L : List ByteArray) (hL : L.length ≤ 1048576) (hx8 : ∀ x ∈ L, x.size ≤ 1048576) (a : Nat) (ha : a ≤ s.size) (R : ByteArray × ByteArray × ByteArray)
    (H : Ev (fun k => match (L.map by_).find? (sepC ((by_ s).drop a)) with | some o => some (tri ((by_ s).take a, o, (by_ s).drop (a + o.length))) | none => archivistref01_Cut.l0 k s L ((a + 1 : Nat) : Int)) R) : ∀ (d j : Nat), L.length - j = d → j ≤ L.length →
    ((L.take j).map by_).find? (sepC ((by_ s).drop a)) = none →
    Ev (fun k => archivistref01_Cut.l1 k s L (a : Int) (j : Int)) R := by
  intro d
  induction d with
  | zero =>
    intro j hd hj hno
    have hjl : j = L.length := by omega
    subst hjl
    rw [List.take_length] at hno
    rw [hno] at H
    refine Ev.step (fun _ => rfl) ?_
    simp only [archivistref01_Cut.l1]
    rw [w1 a (by omega)]
    exact Ev.neg (by omega) H
  | succ d ih =>
    intro j hd hj hno
    have hlt : j < L.length := by omega
    have hb := by_length s
    have hx8' := hx8 L[j] (List.getElem_mem hlt)
    obtain ⟨x, hx⟩ : ∃ x, L[j] = x := ⟨_, rfl⟩
    rw [hx] at hx8'
    have hbx := by_length x
    have htk : L.take (j + 1) = L.take j ++ [x] := by rw [← hx, List.take_succ_eq_append_getElem hlt]
    have hdr : ((by_ s).drop a).length = s.size - a := by rw [List.length_drop, hb]
    have go : sepC ((by_ s).drop a) (by_ x) = false → Ev (fun k => archivistref01_Cut.l1 k s L (a : Int) ((j + 1 : Nat) : Int)) R := fun h => by
      refine ih (j + 1) (by omega) (by omega) ?_
      rw [htk, List.map_append, List.find?_append, hno, List.map_singleton, List.find?_singleton, h]
      rfl
    have e1 : wrap64 ((a : Int) + (x.size : Int)) = ((a + x.size : Nat) : Int) := by rw [wrap_in] <;> omega
    refine Ev.step (fun _ => rfl) ?_
    simp only [archivistref01_Cut.l1]
    rw [w1 j (by omega), rdS L j hlt, hx, e1]
    clear e1
    refine Ev.pos (by omega) (Ev.pos (by omega) ?_)
    by_cases h0 : x.size = 0
    · refine Ev.neg (by omega) (go ?_)
      have : by_ x = [] := List.eq_nil_of_length_eq_zero (by omega)
      simp [sepC, this]
    · refine Ev.pos (by omega) ?_
      have hne : (by_ x == []) = false := by
        rw [beq_eq_false_iff_ne]
        intro e
        rw [e] at hbx
        simp at hbx
        omega
      by_cases hsz : a + x.size ≤ s.size
      · refine Ev.pos (Int.ofNat_le.2 hsz) (Ev.pos (Int.natCast_nonneg _) (Ev.pos (Int.ofNat_le.2 (Nat.le_add_right _ _)) ?_))
        rw [Int.toNat_natCast, Int.toNat_natCast]
        have e2 : (s.extract a (a + x.size)).toList = ((by_ s).drop a).take x.size := by rw [toList_by, by_extract, List.drop_take, Nat.add_sub_cancel_left]
        rw [e2, toList_by]
        by_cases hp : ((by_ s).drop a).take x.size = by_ x
        · have hpf : pfxP (by_ x) ((by_ s).drop a) = true := by rw [pfxP, hbx, hp]; exact beq_self_eq_true _
          have hf : (L.map by_).find? (sepC ((by_ s).drop a)) = some (by_ x) := by
            rw [← List.take_append_drop (j + 1) L, htk, List.map_append, List.map_append, List.find?_append, List.find?_append, hno, List.map_singleton, List.find?_singleton]
            have : sepC ((by_ s).drop a) (by_ x) = true := by
              rw [sepC, hne, hpf]
              rfl
            rw [if_pos this]
            rfl
          rw [hf] at H
          obtain ⟨K, HK⟩ := H
          have hR := Option.some.inj (HK K (Nat.le_refl _))
          refine Ev.pos hp (Ev.pos (Int.ofNat_le.2 ha) (Ev.pos (Int.natCast_nonneg _) (Ev.ret ?_)))
          rw [← hR, tri]
          have t1 : s.extract 0 a = ⟨((by_ s).take a).toArray⟩ := by apply by_ext; rw [by_extract, List.drop_zero]; exact (by_mk _).symm
          have t2 : s.extract (a + x.size) s.size = ⟨((by_ s).drop (a + (by_ x).length)).toArray⟩ := by apply by_ext; rw [by_extract, List.take_of_length_le (Nat.le_of_eq hb), hbx]; exact (by_mk _).symm
          rw [t1, t2, mkB]
        · refine Ev.neg hp (go ?_)
          rw [sepC, hne, pfxP, hbx, beq_eq_false_iff_ne.2 hp]
          rfl
      · refine Ev.neg (by omega) (go ?_)
        rw [sepC, hne, pfxP]
        have : (((by_ s).drop a).take (by_ x).length == by_ x) = false := by
          rw [beq_eq_false_iff_ne]
          intro e
          have := congrArg List.length e
          rw [List.length_take, hdr, hbx] at this
          omega
        rw [this]
        rfl
theorem refCut_loop (s : ByteArray) (hs : s.size ≤ 8388608) (L : List ByteArray) (hL : L.length ≤ 1048576) (hx8 : ∀ x ∈ L, x.size ≤ 1048576) : ∀ (d a : Nat), s.size - a = d → a ≤ s.size →
    Ev (fun k => archivistref01_Cut.l0 k s L (a : Int)) (cutI s L a) := by
  intro d
  induction d with
  | zero =>
    intro a hd ha
    have hb := by_length s
    have haz : a = s.size := by omega
    have hnil : (by_ s).drop a = [] := List.drop_of_length_le (by omega)
    have hnone : ∀ M : List (List UInt8), M.find? (sepC []) = none := fun M => by
      rw [List.find?_eq_none]
      intro o _ h
      simp only [sepC, pfxP, List.take_nil, Bool.and_eq_true, Bool.not_eq_true', beq_iff_eq, beq_eq_false_iff_ne] at h
      exact h.1 h.2.symm
    refine Ev.step (fun _ => rfl) ?_
    simp only [archivistref01_Cut.l0]
    refine Ev.pos (by omega) (refCut_scan s hs L hL hx8 a ha _ ?_ L.length 0 rfl (Nat.zero_le _) rfl)
    rw [hnil, hnone]
    refine Ev.step (fun _ => rfl) ?_
    simp only [archivistref01_Cut.l0]
    refine Ev.neg (by omega) (Ev.ret ?_)
    unfold cutI
    rw [hnil, List.take_of_length_le (by omega)]
    simp only [cutP, tri, List.append_nil, mkB]
  | succ d ih =>
    intro a hd ha
    have hb := by_length s
    have hlt : a < (by_ s).length := by omega
    refine Ev.step (fun _ => rfl) ?_
    simp only [archivistref01_Cut.l0]
    refine Ev.pos (by omega) (refCut_scan s hs L hL hx8 a ha _ ?_ L.length 0 rfl (Nat.zero_le _) rfl)
    unfold cutI
    obtain ⟨c, hc⟩ : ∃ c, (by_ s)[a] = c := ⟨_, rfl⟩
    have hdr := List.drop_eq_getElem_cons hlt
    have htk := List.take_succ_eq_append_getElem hlt
    rw [hc] at hdr htk
    rw [hdr, cutP]
    cases hf : (L.map by_).find? (sepC (c :: (by_ s).drop (a + 1))) with
    | some o =>
      refine Ev.ret ?_
      dsimp only
      rw [← hdr, List.append_nil, List.drop_drop]
    | none =>
      have h := ih (a + 1) (by omega) (by omega)
      unfold cutI at h
      rw [htk, List.append_assoc] at h
      exact h
theorem sum_total (L : List ByteArray) : (L.map fun y => (y.size + 1)).sum = total' L + L.length := by
  induction L with
  | nil => rfl
  | cons x L ih =>
    simp only [List.map_cons, List.sum_cons, total', List.length_cons] at ih ⊢
    omega
theorem mem_total (L : List ByteArray) : ∀ x ∈ L, x.size ≤ total' L := by
  induction L with
  | nil => intro x h; cases h
  | cons y L ih =>
    intro x h
    simp only [total', List.map_cons, List.sum_cons]
    rcases List.mem_cons.1 h with rfl | h
    · omega
    · have := ih x h
      simp only [total'] at this
      omega
theorem parts_j3 (s t : ByteArray) (l seps : List ByteArray) (hs : s.size ≤ 1048576) (ht : t.size ≤ 8388608) (hl : l.length ≤ 1048576) (hlt : total' l ≤ 1048576) (hp : seps.length ≤ 1048576) (hpt : ∀ x ∈ seps, x.size ≤ 1048576) :
    Ev (fun k => archivistlaw01_QuoteParts.j3 k s l seps true t) true := by
  have h1 := cut_ev t (by omega) seps (by omega)
  have h2 := refCut_loop t ht seps hp hpt t.size 0 rfl (Nat.zero_le _)
  unfold cutI at h2
  rw [List.take_zero, List.drop_zero, List.nil_append] at h2
  have hbd := join_bound s l l.length (Nat.le_refl _)
  rw [List.take_length] at hbd
  have hmul : l.length * s.size ≤ 1048576 * 1048576 := Nat.mul_le_mul hl hs
  have h3 := join_f s l (by omega) (by omega)
  have h4 := refJoin_loop s hs l hl hlt l.length 0 rfl (Nat.zero_le _)
  rw [List.take_zero] at h4
  have h5 := among_ev l s (by omega)
  have h6 := refAmong_loop l s hl l.length 0 rfl (Nat.zero_le _)
  rw [List.drop_zero] at h6
  refine Ev.step (fun _ => rfl) ?_
  simp only [archivistlaw01_QuoteParts.j3]
  rw [h3]
  exact Ev.bind h1 (Ev.bind h2 (Ev.pos (by trivial) (Ev.one (Ev.bind h4 (Ev.pos rfl (Ev.bind h5 (Ev.bind h6 (Ev.pos rfl (Ev.pos rfl (Ev.pos rfl (Ev.ret (beq_self_eq_true _))))))))))))
theorem parts_l0 (s : ByteArray) (l seps : List ByteArray) (which : Int) (hs : s.size ≤ 1048576) (hl : l.length ≤ 1048576) (hlt : total' l ≤ 1048576) (hp : seps.length ≤ 1048576) (hpt : ∀ x ∈ seps, x.size ≤ 1048576) : ∀ (d i : Nat) (t : ByteArray), 4 - i = d → i ≤ 4 → i ≤ l.length → t.size ≤ 1048576 * (i + 1) →
    Ev (fun k => archivistlaw01_QuoteParts.l0 k s l seps which true t (i : Int)) true
  | d, i, t, hd, h4, hi, hz => by
    have hend := parts_j3 s t l seps hs (by omega) hl hlt hp hpt
    refine Ev.step (fun _ => rfl) ?_
    simp only [archivistlaw01_QuoteParts.l0]
    by_cases c1 : i < l.length
    · refine Ev.pos (by omega) ?_
      by_cases c2 : i < 4
      · match d, hd with
        | 0, hd => omega
        | d + 1, hd =>
          have hx := mem_total l l[i] (List.getElem_mem c1)
          obtain ⟨x, hxx⟩ : ∃ x, l[i] = x := ⟨_, rfl⟩
          rw [w1 i (by omega), rdS l i c1, hxx]
          rw [hxx] at hx
          refine Ev.pos (by omega) ?_
          by_cases c3 : Int.tmod which 3 = 0
          · refine Ev.pos c3 (Ev.pos (by omega) (Ev.pos (by omega) ?_))
            exact parts_l0 s l seps which hs hl hlt hp hpt d (i + 1) _ (by omega) (by omega) (by omega) (by rw [ByteArray.size_append]; omega)
          · exact Ev.neg c3 hend
      · exact Ev.neg (by omega) hend
    · exact Ev.neg (by omega) hend
theorem QuoteParts : archivistlaw01_QuoteParts.PureU := by
  intro s l seps which _ _ hw hz
  have h0 : IntKind.u8.min = 0 := by decide
  have h1 : IntKind.u8.max = 255 := by decide
  have hw2 : 0 ≤ which ∧ which ≤ 255 := by
    simp [Lit.wf] at hw
    omega
  rw [sum_total, sum_total] at hz
  have hpt : ∀ x ∈ seps, x.size ≤ 1048576 := fun x hx => by
    have := mem_total seps x hx
    omega
  have hj1 : ∀ t : ByteArray, t.size ≤ 1048576 → Ev (fun k => archivistlaw01_QuoteParts.j1 k t l seps which true) true := fun t ht => by
    refine Ev.step (fun _ => rfl) ?_
    simp only [archivistlaw01_QuoteParts.j1]
    exact parts_l0 t l seps which ht (by omega) (by omega) (by omega) hpt 4 0 t rfl (by omega) (Nat.zero_le _) (by omega)
  have hj0 : ∀ b : Bool, (b = true → 0 < l.length) → Ev (fun k => archivistlaw01_QuoteParts.j0 k s l seps which true b) true := fun b hb => by
    refine Ev.step (fun _ => rfl) ?_
    simp only [archivistlaw01_QuoteParts.j0]
    cases b with
    | false => exact Ev.neg (by decide) (hj1 s (by omega))
    | true =>
      have hl := hb rfl
      obtain ⟨m, hm⟩ : ∃ m : Nat, which = m := ⟨which.toNat, by omega⟩
      have e1 : wrap64 which = which := by rw [wrap_in] <;> omega
      rw [e1, hm]
      have e2 : Int.tmod (m : Int) (l.length : Int) = ((m % l.length : Nat) : Int) := rfl
      have hlt : m % l.length < l.length := Nat.mod_lt _ hl
      rw [e2, rdS l _ hlt]
      rw [hm] at hj1
      have hx := mem_total l _ (List.getElem_mem hlt)
      exact Ev.pos (by trivial) (Ev.neg (by omega) (Ev.pos (Int.natCast_nonneg _) (Ev.pos (Int.ofNat_lt.2 hlt) (hj1 _ (by omega)))))
  refine Ev.rounds ?_
  unfold archivistlaw01_QuoteParts.f
  refine Ev.bind quoteExamples_ev (Ev.pos (by trivial) ?_)
  by_cases hl : (l.length : Int) > 0
  · exact Ev.pos hl (hj0 _ (fun _ => by omega))
  · exact Ev.neg hl (hj0 _ (fun h => by cases h))
end Go.Proofs.Ytifcnblgpnfehaa.Pure
