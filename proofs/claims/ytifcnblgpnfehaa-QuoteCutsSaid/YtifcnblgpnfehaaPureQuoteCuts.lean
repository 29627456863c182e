/-
  The law of what a text is cut into, for the seat Ytifcnblgpnfehaa.
-/
import Derived.Test.YtifcnblgpnfehaaX12
import Derived.Test.YtifcnblgpnfehaaRwQuoteCuts
import Derived.Test.YtifcnblgpnfehaaC
set_option linter.unusedVariables false
set_option linter.unusedSimpArgs false
namespace Go.Proofs.Ytifcnblgpnfehaa.Pure
open Go.RowKit Go.Proofs.Ytifcnblgpnfehaa.X Go.Proofs.Ytifcnblgpnfehaa.B Go.Proofs.YtifcnblgpnfehaaW.PrintWords Go.Proofs.YtifcnblgpnfehaaW.PrintLast

theorem size_mk (l : List UInt8) : (⟨l.toArray⟩ : ByteArray).size = l.length := by rw [← by_length, by_mk]
theorem toList_mk (l : List UInt8) : (⟨l.toArray⟩ : ByteArray).toList = l := by rw [toList_by, by_mk]
theorem cuts_loop (s : ByteArray) (hs : s.size ≤ 140737488351232) (L : List ByteArray) (hL : L.length ≤ 4) (x y z : List UInt8) (hc : cutP (L.map by_) (by_ s) = (x, y, z)) : ∀ (d i : Nat), L.length - i = d → i ≤ L.length →
    Ev (fun k => archivistlaw01_QuoteCuts.l1 k s true L ⟨x.toArray⟩ ⟨y.toArray⟩ ⟨z.toArray⟩ (i : Int)) true := by
  have hall := cutP_all (L.map by_) (by_ s)
  have hmem := cutP_mem (L.map by_) (by_ s)
  have hfst := cutP_first (L.map by_)
  rw [hc] at hall hmem
  simp only at hall hmem
  have hzl : x.length + y.length + z.length = s.size := by
    have := congrArg List.length hall
    rw [List.length_append, List.length_append, by_length] at this
    exact this
  intro d
  induction d with
  | zero =>
    intro i hd hi
    refine Ev.step (fun _ => rfl) ?_
    simp only [archivistlaw01_QuoteCuts.l1]
    refine Ev.neg (by omega) (Ev.pos (by trivial) (Ev.bind (among_ev L _ (by omega)) ?_))
    have hj : quote_Join.f ⟨y.toArray⟩ [⟨x.toArray⟩, ⟨z.toArray⟩] = some ⟨(by_ s).toArray⟩ := by
      have e : joinP (by_ ⟨y.toArray⟩) ([⟨x.toArray⟩, ⟨z.toArray⟩].map by_) = by_ s := by
        rw [List.map_cons, List.map_cons, List.map_nil, by_mk, by_mk, by_mk, joinP_cons, joinP_one]
        exact hall
      rw [join_f _ _ (by simp) (by rw [e, by_length]; omega), e]
    rw [hj, mkB]
    have fin : Ev (fun _ => (some s).bind fun t284 => (some (t284.toList == s.toList))) true := Ev.ret (by simp)
    rcases amI_spec ⟨y.toArray⟩ L 0 with ⟨h1, h2⟩ | ⟨j, h, h1, h2, h3⟩
    · rw [h1]
      have hy : y = [] := by
        by_cases hy : y = []
        · exact hy
        · exfalso
          obtain ⟨o, ho, hoy⟩ := List.mem_map.1 (hmem hy)
          obtain ⟨j, hj, rfl⟩ := List.mem_iff_getElem.1 ho
          exact h2 j hj (by rw [toList_mk, toList_by, hoy])
      exact Ev.pos (by omega) (Ev.pos (by rw [toList_mk, hy]; rfl) fin)
    · rw [h1]
      exact Ev.neg (by omega) (Ev.pos (beq_self_eq_true _) fin)
  | succ d ih =>
    intro i hd hi
    have hlt : i < L.length := by omega
    have ih' := ih (i + 1) (by omega) (by omega)
    refine Ev.step (fun _ => rfl) ?_
    simp only [archivistlaw01_QuoteCuts.l1]
    rw [w1 i (by omega), rdS L i hlt]
    have hm := hfst (by_ L[i]) (List.mem_map.2 ⟨L[i], List.getElem_mem hlt, rfl⟩) (by_ s)
    rw [hc] at hm
    simp only at hm
    refine Ev.pos (by omega) (Ev.pos (by omega) (Ev.bind (cut_ev s (by omega) [L[i]] (by simp)) ?_))
    by_cases h0 : L[i].toList = []
    · exact Ev.pos h0 ih'
    · refine Ev.neg h0 (Ev.neg ?_ ih')
      simp only [tri, List.map_cons, List.map_nil, size_mk]
      omega
theorem cuts_j1 (s : ByteArray) (hs : s.size ≤ 140737488351232) (L : List ByteArray) (hL : L.length ≤ 4) : Ev (fun k => archivistlaw01_QuoteCuts.j1 k s true L) true := by
  obtain ⟨x, y, z, hc⟩ : ∃ x y z, cutP (L.map by_) (by_ s) = (x, y, z) := ⟨_, _, _, rfl⟩
  have hall := cutP_all (L.map by_) (by_ s)
  have hnone := cutP_none (L.map by_) (by_ s)
  rw [hc] at hall hnone
  simp only at hall hnone
  have hzl : x.length + y.length + z.length = s.size := by
    have := congrArg List.length hall
    rw [List.length_append, List.length_append, by_length] at this
    exact this
  have hcut := cut_ev s (by omega) L (by omega)
  rw [hc] at hcut
  have e3 : (((⟨x.toArray⟩ : ByteArray) ++ ⟨y.toArray⟩) ++ ⟨z.toArray⟩).toList = s.toList := by
    rw [toList_by, by_append, by_append, by_mk, by_mk, by_mk, hall, toList_by]
  have hj2 : Ev (fun k => archivistlaw01_QuoteCuts.j2 k s true L ⟨x.toArray⟩ ⟨y.toArray⟩ ⟨z.toArray⟩ false) true := by
    refine Ev.step (fun _ => rfl) ?_
    simp only [archivistlaw01_QuoteCuts.j2]
    exact Ev.neg (by decide) (cuts_loop s hs L hL x y z hc L.length 0 rfl (Nat.zero_le _))
  refine Ev.step (fun _ => rfl) ?_
  simp only [archivistlaw01_QuoteCuts.j1]
  refine Ev.bind hcut ?_
  dsimp only [tri]
  refine Ev.pos (by rw [size_mk, size_mk]; omega) (Ev.pos (by rw [ByteArray.size_append, size_mk, size_mk, size_mk]; omega) (Ev.pos e3 ?_))
  by_cases hy : y = []
  · have hz := hnone hy
    have hx : (⟨x.toArray⟩ : ByteArray).toList = s.toList := by
      rw [toList_mk, toList_by, ← hall, hy, hz, List.append_nil, List.append_nil]
    refine Ev.pos (by rw [toList_mk]; exact hy) (Ev.pos (by rw [toList_mk]; exact hz) ?_)
    rw [hx, bne_self_eq_false]
    exact hj2
  · exact Ev.neg (by rw [toList_mk]; exact hy) hj2
theorem cuts_l0 (s : ByteArray) (hs : s.size ≤ 140737488351232) (l : List ByteArray) : ∀ (d i : Nat) (L : List ByteArray), 4 - i = d → i ≤ l.length → i ≤ 4 → L.length = i →
    Ev (fun k => archivistlaw01_QuoteCuts.l0 k s l true L (i : Int)) true
  | d, i, L, hd, hi, h4, hL => by
    have hend := cuts_j1 s hs L (by omega)
    refine Ev.step (fun _ => rfl) ?_
    simp only [archivistlaw01_QuoteCuts.l0]
    by_cases hlt : i < l.length
    · refine Ev.pos (by omega) ?_
      by_cases h5 : i < 4
      · match d, hd with
        | 0, hd => omega
        | d + 1, hd =>
          rw [w1 i (by omega)]
          obtain ⟨n, hn, hn2⟩ : ∃ n : Nat, mn ((rdOf ByteArray.empty l (i : Int)).size : Int) 3 = (n : Int) ∧ n ≤ (rdOf ByteArray.empty l (i : Int)).size := by
            unfold mn
            split
            · exact ⟨3, rfl, by omega⟩
            · exact ⟨_, rfl, Nat.le_refl _⟩
          rw [hn]
          refine Ev.pos (by omega) (Ev.pos (by omega) (Ev.pos (Int.natCast_nonneg _) (Ev.pos (Int.ofNat_le.2 hn2) (Ev.pos (by omega) ?_))))
          exact cuts_l0 s hs l d (i + 1) _ (by omega) (by omega) (by omega) (by rw [List.length_append, hL]; rfl)
      · exact Ev.neg (by omega) hend
    · exact Ev.neg (by omega) hend
theorem QuoteCuts : archivistlaw01_QuoteCuts.PureS := by
  intro s l _ hs _
  refine Ev.rounds ?_
  unfold archivistlaw01_QuoteCuts.f
  exact Ev.bind quoteExamples_ev (Ev.pos (by trivial) (cuts_l0 s hs l 4 0 [] rfl (Nat.zero_le _) (by omega) rfl))
end Go.Proofs.Ytifcnblgpnfehaa.Pure
