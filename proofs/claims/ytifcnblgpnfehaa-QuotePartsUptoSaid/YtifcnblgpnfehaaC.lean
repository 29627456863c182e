/-
  What quote.Cut and quote.Join tell, in plain lists of bytes, for the seat Ytifcnblgpnfehaa.
-/
import Derived.Test.YtifcnblgpnfehaaX4
import Derived.Test.YtifcnblgpnfehaaX5
import Derived.Test.YtifcnblgpnfehaaF
import Derived.Test.YtifcnblgpnfehaaJ
import Derived.Lib.Join
set_option linter.unusedVariables false
set_option linter.unusedSimpArgs false
namespace Go.Proofs.Ytifcnblgpnfehaa.B
open Go.RowKit Go.Proofs.Ytifcnblgpnfehaa.X Go.Proofs.YtifcnblgpnfehaaW.PrintWords Go.Proofs.YtifcnblgpnfehaaW.PrintLast

/-- does a text begin with this one, which is not empty? -/
def sepC (t o : List UInt8) : Bool := !(o == []) && pfxP o t
/-- cut at the first of some -/
def cutP (L : List (List UInt8)) : List UInt8 → List UInt8 × List UInt8 × List UInt8
  | [] => ([], [], [])
  | c :: t => match L.find? (sepC (c :: t)) with
    | some o => ([], o, (c :: t).drop o.length)
    | none => (c :: (cutP L t).1, (cutP L t).2.1, (cutP L t).2.2)
def tri (r : List UInt8 × List UInt8 × List UInt8) : ByteArray × ByteArray × ByteArray := (⟨r.1.toArray⟩, ⟨r.2.1.toArray⟩, ⟨r.2.2.toArray⟩)
theorem mkB (t : ByteArray) : (⟨(by_ t).toArray⟩ : ByteArray) = t := by apply by_ext; rw [by_mk]
theorem pfxP_len {o t : List UInt8} (h : pfxP o t = true) : o.length ≤ t.length := by
  simp only [pfxP, beq_iff_eq] at h
  have := congrArg List.length h
  rw [List.length_take] at this
  omega
theorem cut_scan (s : ByteArray) (hs : s.size ≤ 9223372036854775807) (L : List ByteArray) (hL : L.length ≤ 9223372036854775807) (a : Nat) (ha : a < s.size) (R : ByteArray × ByteArray × ByteArray)
    (H : Ev (fun k => match (L.map by_).find? (sepC ((by_ s).drop a)) with | some o => some (tri ((by_ s).take a, o, (by_ s).drop (a + o.length))) | none => quote_Cut.l0 k s L (s.size : Int) ((a + 1 : Nat) : Int)) R) : ∀ (d j : Nat), L.length - j = d → j ≤ L.length →
    ((L.take j).map by_).find? (sepC ((by_ s).drop a)) = none →
    Ev (fun k => quote_Cut.l1 k s L (a : Int) (s.size : Int) (a : Int) L (L.length : Int) (j : Int)) R := by
  intro d
  induction d with
  | zero =>
    intro j hd hj hno
    have hjl : j = L.length := by omega
    subst hjl
    rw [List.take_length] at hno
    rw [hno] at H
    refine Ev.step (fun _ => rfl) ?_
    simp only [quote_Cut.l1]
    rw [w1 a (by omega)]
    exact Ev.neg (by omega) H
  | succ d ih =>
    intro j hd hj hno
    have hlt : j < L.length := by omega
    have hb := by_length s
    obtain ⟨x, hx⟩ : ∃ x, L[j] = x := ⟨_, rfl⟩
    have hbx := by_length x
    have htk : L.take (j + 1) = L.take j ++ [x] := by rw [← hx, List.take_succ_eq_append_getElem hlt]
    have hdr : ((by_ s).drop a).length = s.size - a := by rw [List.length_drop, hb]
    have go : sepC ((by_ s).drop a) (by_ x) = false → Ev (fun k => quote_Cut.l1 k s L (a : Int) (s.size : Int) (a : Int) L (L.length : Int) ((j + 1 : Nat) : Int)) R := fun h => by
      refine ih (j + 1) (by omega) (by omega) ?_
      rw [htk, List.map_append, List.find?_append, hno, List.map_singleton, List.find?_singleton, h]
      rfl
    refine Ev.step (fun _ => rfl) ?_
    simp only [quote_Cut.l1]
    rw [w1 j (by omega), rdS L j hlt, hx]
    refine Ev.pos (by omega) (Ev.pos (by omega) (Ev.pos (by omega) ?_))
    by_cases h0 : x.toList = []
    · refine Ev.pos h0 (go ?_)
      rw [toList_by] at h0
      simp [sepC, h0]
    · refine Ev.neg h0 (Ev.pos (by omega) (Ev.pos (by omega) ?_))
      rw [toList_by] at h0
      have e0 : by_ (s.extract (a : Int).toNat s.size) = (by_ s).drop a := by rw [by_extract, Int.toNat_natCast, List.take_of_length_le (Nat.le_of_eq hb)]
      rw [pfx_f, e0]
      refine Ev.one ?_
      by_cases hp : pfxP (by_ x) ((by_ s).drop a) = true
      · have hl := pfxP_len hp
        rw [hdr, hbx] at hl
        have hsz : a + x.size ≤ s.size := by omega
        have e1 : wrap64 ((a : Int) + (x.size : Int)) = ((a + x.size : Nat) : Int) := by rw [wrap_in] <;> omega
        have hf : (L.map by_).find? (sepC ((by_ s).drop a)) = some (by_ x) := by
          rw [← List.take_append_drop (j + 1) L, htk, List.map_append, List.map_append, List.find?_append, List.find?_append, hno, List.map_singleton, List.find?_singleton]
          have : sepC ((by_ s).drop a) (by_ x) = true := by
            have h9 : (by_ x == []) = false := by rw [beq_eq_false_iff_ne]; exact h0
            rw [sepC, h9, hp]
            rfl
          rw [if_pos this]
          rfl
        rw [hf] at H
        obtain ⟨K, HK⟩ := H
        have hR := Option.some.inj (HK K (Nat.le_refl _))
        rw [e1]
        clear e1 hl
        refine Ev.pos hp (Ev.pos (Int.natCast_nonneg _) (Ev.pos (Int.ofNat_le.2 hsz) (Ev.ret ?_)))
        rw [← hR, Int.toNat_natCast, Int.toNat_natCast, tri]
        have t1 : s.extract 0 a = ⟨((by_ s).take a).toArray⟩ := by apply by_ext; rw [by_extract, List.drop_zero]; exact (by_mk _).symm
        have t2 : s.extract (a + x.size) s.size = ⟨((by_ s).drop (a + (by_ x).length)).toArray⟩ := by apply by_ext; rw [by_extract, List.take_of_length_le (Nat.le_of_eq hb), hbx]; exact (by_mk _).symm
        rw [t1, t2, mkB]
      · refine Ev.neg hp (go ?_)
        rw [Bool.not_eq_true] at hp
        rw [sepC, hp, Bool.and_false]
def cutI (s : ByteArray) (L : List ByteArray) (a : Nat) : ByteArray × ByteArray × ByteArray :=
  tri ((by_ s).take a ++ (cutP (L.map by_) ((by_ s).drop a)).1, (cutP (L.map by_) ((by_ s).drop a)).2.1, (cutP (L.map by_) ((by_ s).drop a)).2.2)
theorem cut_loop (s : ByteArray) (hs : s.size ≤ 9223372036854775807) (L : List ByteArray) (hL : L.length ≤ 9223372036854775807) : ∀ (d a : Nat), s.size - a = d → a ≤ s.size →
    Ev (fun k => quote_Cut.l0 k s L (s.size : Int) (a : Int)) (cutI s L a) := by
  intro d
  induction d with
  | zero =>
    intro a hd ha
    have hb := by_length s
    refine Ev.step (fun _ => rfl) ?_
    simp only [quote_Cut.l0]
    refine Ev.neg (by omega) (Ev.ret ?_)
    unfold cutI
    rw [List.drop_of_length_le (by omega), List.take_of_length_le (by omega)]
    simp only [cutP, tri, List.append_nil, mkB]
  | succ d ih =>
    intro a hd ha
    have hb := by_length s
    have hlt : a < (by_ s).length := by omega
    refine Ev.step (fun _ => rfl) ?_
    simp only [quote_Cut.l0]
    refine Ev.pos (by omega) (cut_scan s hs L hL a (by omega) _ ?_ L.length 0 rfl (Nat.zero_le _) rfl)
    unfold cutI
    obtain ⟨c, hc⟩ : ∃ c, (by_ s)[a] = c := ⟨_, rfl⟩
    have hdr := List.drop_eq_getElem_cons hlt
    have htk := List.take_succ_eq_append_getElem hlt
    rw [hc] at hdr htk
    rw [hdr, cutP]
    cases hf : (L.map by_).find? (sepC (c :: (by_ s).drop (a + 1))) with
    | some o =>
      refine Ev.ret ?_
      dsimp only
      rw [← hdr, List.append_nil, List.drop_drop]
    | none =>
      have h := ih (a + 1) (by omega) (by omega)
      unfold cutI at h
      rw [htk, List.append_assoc] at h
      exact h
theorem cut_ev (s : ByteArray) (hs : s.size ≤ 9223372036854775807) (L : List ByteArray) (hL : L.length ≤ 9223372036854775807) : Ev (fun k => quote_Cut.f k s L) (tri (cutP (L.map by_) (by_ s))) := by
  have h := cut_loop s hs L hL s.size 0 rfl (Nat.zero_le _)
  unfold cutI at h
  rw [List.take_zero, List.drop_zero, List.nil_append] at h
  exact h
/-! ### what a cut is -/
theorem cutP_all (L : List (List UInt8)) : ∀ t, (cutP L t).1 ++ (cutP L t).2.1 ++ (cutP L t).2.2 = t
  | [] => rfl
  | c :: t => by
    rw [cutP]
    cases hf : L.find? (sepC (c :: t)) with
    | some o =>
      have h := List.find?_some hf
      simp only [sepC, Bool.and_eq_true, pfxP, beq_iff_eq] at h
      dsimp only
      rw [List.nil_append]
      exact (congrArg (· ++ _) h.2.symm).trans (List.take_append_drop _ _)
    | none =>
      dsimp only
      rw [List.cons_append, List.cons_append, cutP_all L t]
theorem cutP_none (L : List (List UInt8)) : ∀ t, (cutP L t).2.1 = [] → (cutP L t).2.2 = []
  | [], _ => rfl
  | c :: t, h => by
    rw [cutP] at h ⊢
    cases hf : L.find? (sepC (c :: t)) with
    | some o =>
      rw [hf] at h
      have h2 := List.find?_some hf
      simp only at h
      rw [h] at h2
      simp [sepC] at h2
    | none =>
      rw [hf] at h
      exact cutP_none L t h
theorem cutP_mem (L : List (List UInt8)) : ∀ t, (cutP L t).2.1 ≠ [] → (cutP L t).2.1 ∈ L
  | [], h => absurd rfl h
  | c :: t, h => by
    rw [cutP] at h ⊢
    cases hf : L.find? (sepC (c :: t)) with
    | some o => exact List.mem_of_find?_eq_some hf
    | none =>
      rw [hf] at h
      exact cutP_mem L t h
theorem cutP_first (L : List (List UInt8)) (x : List UInt8) (hx : x ∈ L) : ∀ t, (cutP L t).1.length ≤ (cutP [x] t).1.length
  | [] => Nat.le_refl _
  | c :: t => by
    rw [cutP, cutP]
    cases hf : L.find? (sepC (c :: t)) with
    | some o => exact Nat.zero_le _
    | none =>
      have h := List.find?_eq_none.1 hf x hx
      rw [List.find?_singleton, if_neg h]
      simp only [List.length_cons]
      have := cutP_first L x hx t
      omega
/-! ### joined -/
def joinP (sep : List UInt8) (l : List (List UInt8)) : List UInt8 := Go.Lib.join l sep
theorem joinP_nil (sep : List UInt8) : joinP sep [] = [] := rfl
theorem joinP_one (sep x : List UInt8) : joinP sep [x] = x := Go.Lib.join_one x sep
theorem joinP_cons (sep x y : List UInt8) (l : List (List UInt8)) : joinP sep (x :: y :: l) = x ++ sep ++ joinP sep (y :: l) := by
  unfold joinP
  rw [Go.Lib.join_cons, Go.Lib.join_cons]
  simp [Go.Lib.joinTail]
theorem join_f (sep : ByteArray) (l : List ByteArray) (hl : l.length ≤ 140737488355328) (hz : (joinP (by_ sep) (l.map by_)).length ≤ 140737488355328) : quote_Join.f sep l = some ⟨(joinP (by_ sep) (l.map by_)).toArray⟩ := by
  have e : strings_Join.pure l sep = ⟨(joinP (by_ sep) (l.map by_)).toArray⟩ := rfl
  unfold quote_Join.f strings_Join.f
  rw [e, if_pos ⟨hl, by rw [← by_length, by_mk]; exact hz⟩]
  rfl
end Go.Proofs.Ytifcnblgpnfehaa.B
