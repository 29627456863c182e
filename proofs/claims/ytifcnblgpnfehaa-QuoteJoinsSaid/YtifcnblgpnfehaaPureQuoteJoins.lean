/-
  The law of what parts are joined to, for the seat Ytifcnblgpnfehaa.
-/
import Derived.Test.YtifcnblgpnfehaaX13
import Derived.Test.YtifcnblgpnfehaaRwQuoteJoins
import Derived.Test.YtifcnblgpnfehaaC
set_option linter.unusedVariables false
set_option linter.unusedSimpArgs false
namespace Go.Proofs.Ytifcnblgpnfehaa.Pure
open Go.RowKit Go.Proofs.Ytifcnblgpnfehaa.X Go.Proofs.Ytifcnblgpnfehaa.B Go.Proofs.YtifcnblgpnfehaaW.PrintWords Go.Proofs.YtifcnblgpnfehaaW.PrintLast

theorem toList_mk' (l : List UInt8) : (⟨l.toArray⟩ : ByteArray).toList = l := by rw [toList_by, by_mk]
theorem size_mk' (l : List UInt8) : (⟨l.toArray⟩ : ByteArray).size = l.length := by rw [← by_length, by_mk]
/-- letters alone, at most six of them -/
def Part (x : ByteArray) : Prop := x.size ≤ 6 ∧ ∀ c ∈ by_ x, c.toNat ≠ 45
def total (L : List ByteArray) : Nat := (L.map ByteArray.size).sum
theorem total_le : ∀ (L : List ByteArray), (∀ x ∈ L, Part x) → total L ≤ 6 * L.length
  | [], _ => Nat.le_refl _
  | x :: L, h => by
    have h1 := (h x (by simp)).1
    have h2 := total_le L (fun y hy => h y (by simp [hy]))
    simp only [total, List.map_cons, List.sum_cons, List.length_cons] at h2 ⊢
    omega
theorem total_app (L : List ByteArray) (x : ByteArray) : total (L ++ [x]) = total L + x.size := by simp [total]
theorem join_len (sep : List UInt8) : ∀ (L : List ByteArray), (joinP sep (L.map by_)).length = total L + sep.length * (L.length - 1)
  | [] => by simp [joinP_nil, total]
  | [x] => by simp [joinP_one, total, by_length]
  | x :: y :: L => by
    have ih := join_len sep (y :: L)
    rw [List.map_cons, List.map_cons, joinP_cons, List.length_append, List.length_append, by_length]
    rw [List.map_cons] at ih
    rw [ih]
    simp only [total, List.map_cons, List.sum_cons, List.length_cons, Nat.add_sub_cancel]
    rw [Nat.mul_add, Nat.mul_one]
    omega
theorem dash_no {p : List UInt8} (h : ∀ c ∈ p, c.toNat ≠ 45) : ∀ {t : List UInt8} {c : UInt8} {q : List UInt8}, p = c :: q → pfxP [45, 45] (c :: t) = false := by
  intro t c q e
  subst e
  have h1 := h c (by simp)
  have h2 : (c == 45) = false := by rw [beq_eq_false_iff_ne]; intro e; exact h1 (by rw [e]; rfl)
  cases t with
  | nil => simp [pfxP]
  | cons d t => simp [pfxP, h2]
theorem cut_end : ∀ (p : List UInt8), (∀ c ∈ p, c.toNat ≠ 45) → cutP [[45, 45]] p = (p, [], [])
  | [], _ => rfl
  | c :: p, h => by
    have hn := dash_no h (t := p) rfl
    have ih := cut_end p (fun d hd => h d (by simp [hd]))
    rw [cutP, List.find?_singleton, sepC, hn, Bool.and_false, ih]
    rfl
theorem cut_dash : ∀ (p r : List UInt8), (∀ c ∈ p, c.toNat ≠ 45) → cutP [[45, 45]] (p ++ [45, 45] ++ r) = (p, [45, 45], r)
  | [], r, _ => by
    rw [List.nil_append, List.cons_append, cutP, List.find?_singleton]
    have : sepC (45 :: ([45] ++ r)) [45, 45] = true := by simp [sepC, pfxP]
    rw [if_pos this]
    rfl
  | c :: p, r, h => by
    have hn := dash_no h (t := p ++ [45, 45] ++ r) rfl
    have ih := cut_dash p r (fun d hd => h d (by simp [hd]))
    rw [List.cons_append, List.cons_append, cutP, List.find?_singleton, sepC, hn, Bool.and_false, ih]
    rfl
theorem joins_l2 (L : List ByteArray) (hL : L.length ≤ 8) (hp : ∀ x ∈ L, Part x) : ∀ (d i : Nat), L.length - i = d → i ≤ L.length →
    Ev (fun k => archivistlaw01_QuoteJoins.l2 k true L ⟨(joinP [45, 45] ((L.drop i).map by_)).toArray⟩ (i : Int)) true := by
  have ht := total_le L hp
  intro d
  induction d with
  | zero =>
    intro i hd hi
    refine Ev.step (fun _ => rfl) ?_
    simp only [archivistlaw01_QuoteJoins.l2]
    have hj : quote_Join.f ⟨#[]⟩ L = some ⟨(joinP [] (L.map by_)).toArray⟩ := join_f ⟨#[]⟩ L (by omega) (by
      show (joinP [] (L.map by_)).length ≤ _
      rw [join_len]
      simp only [List.length_nil, Nat.zero_mul]
      omega)
    have hlen : (joinP [] (L.map by_)).length ≤ 48 := by rw [join_len]; simp only [List.length_nil, Nat.zero_mul]; omega
    have hj2 : ∀ t : ByteArray, t.size ≤ 48 → quote_Join.f ⟨#[]⟩ [t] = some t := fun t h => by
      have e : joinP (by_ (⟨#[]⟩ : ByteArray)) ([t].map by_) = by_ t := joinP_one _ _
      rw [join_f ⟨#[]⟩ [t] (by simp) (by rw [e, by_length]; omega), e, mkB]
    refine Ev.neg (by omega) (Ev.pos (by trivial) (Ev.pos ?_ ?_))
    · rw [List.drop_of_length_le (by omega), toList_mk']
      rfl
    · rw [hj]
      refine Ev.one (Ev.one ?_)
      rw [hj2 _ (by rw [size_mk']; exact hlen)]
      exact Ev.ret (by simp)
  | succ d ih =>
    intro i hd hi
    have hlt : i < L.length := by omega
    have ih' := ih (i + 1) (by omega) (by omega)
    have hx := hp L[i] (List.getElem_mem hlt)
    obtain ⟨x, hxx⟩ : ∃ x, L[i] = x := ⟨_, rfl⟩
    rw [hxx] at hx
    have hdr := List.drop_eq_getElem_cons hlt
    rw [hxx] at hdr
    have hlen : (joinP [45, 45] ((L.drop i).map by_)).length ≤ 100 := by
      rw [join_len]
      have h1 := total_le (L.drop i) (fun y hy => hp y (List.mem_of_mem_drop hy))
      rw [List.length_drop] at h1 ⊢
      simp only [List.length_cons, List.length_nil]
      omega
    have hc := cut_ev ⟨(joinP [45, 45] ((L.drop i).map by_)).toArray⟩ (by rw [size_mk']; omega) [(⟨#[45, 45]⟩ : ByteArray)] (by simp)
    rw [by_mk] at hc
    have e0 : [(⟨#[45, 45]⟩ : ByteArray)].map by_ = [[45, 45]] := rfl
    rw [e0] at hc
    refine Ev.step (fun _ => rfl) ?_
    simp only [archivistlaw01_QuoteJoins.l2]
    rw [w1 i (by omega), rdS L i hlt, hxx]
    have ew : wrap64 ((L.length : Int) - 1) = (L.length : Int) - 1 := by rw [wrap_in] <;> omega
    rw [ew]
    clear ew
    refine Ev.pos (by omega) (Ev.bind hc (Ev.pos (by omega) ?_))
    rw [hdr]
    cases hq : L.drop (i + 1) with
    | nil =>
      have hi1 : i + 1 = L.length := by
        have := congrArg List.length hq
        rw [List.length_drop, List.length_nil] at this
        omega
      rw [hq] at ih'
      have e1 : cutP [[45, 45]] (joinP [45, 45] ((x :: []).map by_)) = (by_ x, [], []) := by
        rw [List.map_cons, List.map_nil, joinP_one]
        exact cut_end _ hx.2
      rw [e1]
      dsimp only [tri]
      refine Ev.pos (by rw [toList_mk', toList_by]) (Ev.neg ?_ ih')
      rw [toList_mk', decide_eq_false (by omega)]
      decide
    | cons y r =>
      rw [hq] at ih'
      have hi1 : i + 1 < L.length := by
        have := congrArg List.length hq
        rw [List.length_drop, List.length_cons] at this
        omega
      have e1 : cutP [[45, 45]] (joinP [45, 45] ((x :: y :: r).map by_)) = (by_ x, [45, 45], joinP [45, 45] ((y :: r).map by_)) := by
        rw [List.map_cons, List.map_cons, joinP_cons]
        exact cut_dash _ _ hx.2
      rw [e1]
      dsimp only [tri]
      refine Ev.pos (by rw [toList_mk', toList_by]) (Ev.neg ?_ ih')
      rw [toList_mk', decide_eq_true (by omega)]
      decide
theorem joins_end (l : List (List Int)) (L : List ByteArray) (hL : L.length ≤ 8) (hp : ∀ x ∈ L, Part x) (n : Int) : Ev (fun k => archivistlaw01_QuoteJoins.j1 k l true L (total L : Int) n false) true := by
  have ht := total_le L hp
  refine Ev.step (fun _ => rfl) ?_
  simp only [archivistlaw01_QuoteJoins.j1]
  have hlen : (joinP [45, 45] (L.map by_)).length = total L + 2 * (L.length - 1) := join_len _ L
  have hj : quote_Join.f ⟨#[45, 45]⟩ L = some ⟨(joinP [45, 45] (L.map by_)).toArray⟩ := join_f ⟨#[45, 45]⟩ L (by omega) (by
    show (joinP [45, 45] (L.map by_)).length ≤ _
    omega)
  rw [hj]
  refine Ev.neg (by decide) (Ev.one (Ev.pos ?_ ?_))
  · rw [size_mk', hlen]
    have e1 : wrap64 ((L.length : Int) - 1) = (L.length : Int) - 1 := by rw [wrap_in] <;> omega
    have e2 : mx ((L.length : Int) - 1) 0 = ((L.length - 1 : Nat) : Int) := by unfold mx; split <;> omega
    have e3 : wrap64 (2 * ((L.length - 1 : Nat) : Int)) = ((2 * (L.length - 1) : Nat) : Int) := by rw [wrap_in] <;> omega
    have e4 : wrap64 ((total L : Int) + ((2 * (L.length - 1) : Nat) : Int)) = ((total L + 2 * (L.length - 1) : Nat) : Int) := by rw [wrap_in] <;> omega
    rw [e1, e2, e3, e4]
  · have h := joins_l2 L hL hp L.length 0 rfl (Nat.zero_le _)
    rw [List.drop_zero] at h
    exact h
theorem letter_one (n : Int) (h0 : 0 ≤ n) (h1 : n ≤ 255) : ∃ c : UInt8, by_ (strOfNums [(97 + (Int.tmod n 26)) % 256]) = [c] ∧ c.toNat ≠ 45 := by
  refine ⟨_, rfl, ?_⟩
  rw [Int.tmod_eq_emod_of_nonneg h0]
  have : (97 + n % 26) % 256 = 97 + n % 26 := by omega
  rw [this]
  obtain ⟨m, hm⟩ : ∃ m : Nat, n % 26 = m := ⟨(n % 26).toNat, by omega⟩
  rw [hm]
  simp
  omega
theorem rdL (l : List (List Int)) (i : Nat) (h : i < l.length) : rd_L2 l (i : Int) = l[i] := by simp [rd_L2, h]
mutual
theorem joins_l1 (l : List (List Int)) (hw : ∀ x ∈ l, ∀ y ∈ x, 0 ≤ y ∧ y ≤ 255) (L : List ByteArray) (hp : ∀ x ∈ L, Part x) (i : Nat) (hi : i < l.length) (h8 : i < 8) (hLi : L.length = i)
    (H : ∀ t, Part t → Ev (fun k => archivistlaw01_QuoteJoins.l0 k l true (L ++ [t]) ((total (L ++ [t]) : Nat) : Int) ((i + 1 : Nat) : Int)) true) : ∀ (d j : Nat) (t : ByteArray), 6 - j = d → j ≤ l[i].length → j ≤ 6 → t.size ≤ j → (∀ c ∈ by_ t, c.toNat ≠ 45) →
    Ev (fun k => archivistlaw01_QuoteJoins.l1 k l true L (total L : Int) (i : Int) t (j : Int)) true
  | d, j, t, hd, hj, h6, hz, hc => by
    have ht := total_le L hp
    have e1 : wrap64 ((total L : Int) + (t.size : Int)) = ((total (L ++ [t]) : Nat) : Int) := by
      rw [total_app, wrap_in] <;> omega
    have hend : Ev (fun k => if L.length < 8796093022208 then archivistlaw01_QuoteJoins.l0 k l true (L ++ [t]) (wrap64 ((total L : Int) + (t.size : Int))) (wrap64 ((i : Int) + 1)) else none) true := by
      rw [e1, w1 i (by omega)]
      exact Ev.pos (by omega) (H t ⟨by omega, hc⟩)
    refine Ev.step (fun _ => rfl) ?_
    simp only [archivistlaw01_QuoteJoins.l1]
    rw [rdL l i hi]
    refine Ev.pos (by omega) (Ev.pos (by omega) ?_)
    by_cases c1 : j < l[i].length
    · refine Ev.pos (by omega) ?_
      by_cases c2 : j < 6
      · match d, hd with
        | 0, hd => omega
        | d + 1, hd =>
          have hv := hw l[i] (List.getElem_mem hi) l[i][j] (List.getElem_mem c1)
          have hrd : rd l[i] (j : Int) = l[i][j] := by simp [rd, c1]
          obtain ⟨c, hc1, hc2⟩ := letter_one _ hv.1 hv.2
          rw [w1 j (by omega), hrd]
          have hs1 : (strOfNums [(97 + (Int.tmod l[i][j] 26)) % 256]).size = 1 := by rw [size_nums]; rfl
          refine Ev.pos (by omega) (Ev.pos (by omega) (Ev.one (Ev.pos (by rw [hs1]; omega) ?_)))
          refine joins_l1 l hw L hp i hi h8 hLi H d (j + 1) _ (by omega) (by omega) (by omega) (by rw [ByteArray.size_append, hs1]; omega) (fun q hq => ?_)
          rw [by_append, hc1, List.mem_append, List.mem_singleton] at hq
          rcases hq with hq | rfl
          · exact hc q hq
          · exact hc2
      · exact Ev.neg (by omega) hend
    · exact Ev.neg (by omega) hend
end
theorem joins_l0 (l : List (List Int)) (hl : l.length ≤ 9223372036854775807) (hw : ∀ x ∈ l, ∀ y ∈ x, 0 ≤ y ∧ y ≤ 255) : ∀ (d i : Nat) (L : List ByteArray), 8 - i = d → i ≤ l.length → i ≤ 8 → L.length = i → (∀ x ∈ L, Part x) →
    Ev (fun k => archivistlaw01_QuoteJoins.l0 k l true L (total L : Int) (i : Int)) true
  | d, i, L, hd, hi, h8, hL, hp => by
    have hend := joins_end l L (by omega) hp (i : Int)
    refine Ev.step (fun _ => rfl) ?_
    simp only [archivistlaw01_QuoteJoins.l0]
    by_cases hlt : i < l.length
    · refine Ev.pos (by omega) ?_
      by_cases h5 : i < 8
      · match d, hd with
        | 0, hd => omega
        | d + 1, hd =>
          rw [decide_eq_true (by omega)]
          refine Ev.step (fun _ => rfl) ?_
          simp only [archivistlaw01_QuoteJoins.j1]
          refine Ev.pos (by trivial) (joins_l1 l hw L hp i hlt h5 hL (fun t hpt => ?_) 6 0 ⟨#[]⟩ rfl (Nat.zero_le _) (by omega) (by decide) (by simp [by_]))
          refine joins_l0 l hl hw d (i + 1) (L ++ [t]) (by omega) (by omega) (by omega) (by rw [List.length_append, hL]; rfl) (fun x hx => ?_)
          rcases List.mem_append.1 hx with hx | hx
          · exact hp x hx
          · rw [List.mem_singleton.1 hx]
            exact hpt
      · rw [decide_eq_false (by omega)]
        exact hend
    · exact Ev.neg (by omega) hend
theorem u8_wf {n : Int} (h : (Lit.int .u8 n).wf = true) : 0 ≤ n ∧ n ≤ 255 := by
  have h0 : IntKind.u8.min = 0 := by decide
  have h1 : IntKind.u8.max = 255 := by decide
  simp [Lit.wf] at h
  omega
theorem QuoteJoins : archivistlaw01_QuoteJoins.PureS := by
  intro l hg _
  refine Ev.rounds ?_
  unfold archivistlaw01_QuoteJoins.f
  refine Ev.bind quoteExamples_ev (Ev.pos (by trivial) ?_)
  have hm : maxLen ≤ 9223372036854775807 := by decide
  exact joins_l0 l (by omega) (fun x hx y hy => u8_wf ((hg.2 x hx).2 y hy)) 8 0 [] rfl (Nat.zero_le _) (by omega) rfl (by simp)
end Go.Proofs.Ytifcnblgpnfehaa.Pure
