/-
  The document's own answer to chapter 7: its signs, one word, and all of them, for the seat Ytifcnblgpnfehaa.
-/
import Derived.Test.YtifcnblgpnfehaaX16
import Derived.Test.YtifcnblgpnfehaaX18
import Derived.Test.YtifcnblgpnfehaaX19
import Derived.Test.YtifcnblgpnfehaaX20
import Derived.Test.YtifcnblgpnfehaaX21
import Derived.Test.YtifcnblgpnfehaaV
import Derived.Test.YtifcnblgpnfehaaR
set_option linter.unusedVariables false
set_option linter.unusedSimpArgs false
namespace Go.Proofs.Ytifcnblgpnfehaa.B
open Go.RowKit Go.Proofs.Ytifcnblgpnfehaa.X Go.Proofs.YtifcnblgpnfehaaW.PrintWords Go.Proofs.YtifcnblgpnfehaaW.PrintLast

theorem letter_f (c : UInt8) : archivistref07_letter.f (c.toNat : Int) = some (letC c) := by
  have h : ∀ n : Fin 256, archivistref07_letter.f ((UInt8.ofNat n.val).toNat : Int) = some (letC (UInt8.ofNat n.val)) := by decide +kernel
  have := h ⟨c.toNat, c.toNat_lt⟩
  simpa using this
theorem digit_f (c : UInt8) : archivistref07_digit.f (c.toNat : Int) = some (digC c) := by
  have h : ∀ n : Fin 256, archivistref07_digit.f ((UInt8.ofNat n.val).toNat : Int) = some (digC (UInt8.ofNat n.val)) := by decide +kernel
  have := h ⟨c.toNat, c.toNat_lt⟩
  simpa using this
theorem nameC_alt (c : UInt8) : nameC c = (letC c || digC c || c.toNat == 95) := by
  have h : ∀ n : Fin 256, nameC (UInt8.ofNat n.val) = (letC (UInt8.ofNat n.val) || digC (UInt8.ofNat n.val) || (UInt8.ofNat n.val).toNat == 95) := by decide +kernel
  have := h ⟨c.toNat, c.toNat_lt⟩
  simpa using this
/-! ### signs -/
def opsB : List ByteArray := [⟨#[61, 126]⟩, ⟨#[33, 126]⟩, ⟨#[33, 61]⟩, ⟨#[61, 61]⟩, ⟨#[62, 61]⟩, ⟨#[60, 61]⟩, ⟨#[124, 61]⟩, ⟨#[124, 126]⟩, ⟨#[123]⟩, ⟨#[125]⟩, ⟨#[44]⟩, ⟨#[61]⟩, ⟨#[62]⟩, ⟨#[60]⟩, ⟨#[124]⟩]
theorem refOps_f : archivistref07_Ops.f = some opsB := rfl
theorem lexOps_f : lex_Ops.f = some opsB := rfl
theorem opsB_by : opsB.map by_ = opsP := rfl
theorem op_loop (t : ByteArray) (L : List ByteArray) (hL : L.length ≤ 100) : ∀ (d i : Nat), L.length - i = d → i ≤ L.length →
    Ev (fun k => archivistref07_op.l0 k t L (i : Int)) (((L.drop i).find? fun o => pfxP (by_ o) (by_ t)).getD ⟨#[]⟩)
  | 0, i, hd, hi => by
    refine Ev.step (fun _ => rfl) ?_
    simp only [archivistref07_op.l0]
    rw [List.drop_of_length_le (by omega)]
    exact Ev.neg (by omega) (Ev.now _)
  | d + 1, i, hd, hi => by
    have hlt : i < L.length := by omega
    have ih := op_loop t L hL d (i + 1) (by omega) (by omega)
    refine Ev.step (fun _ => rfl) ?_
    simp only [archivistref07_op.l0]
    obtain ⟨o, ho⟩ : ∃ o, L[i] = o := ⟨_, rfl⟩
    have e : rdOf ByteArray.empty L (i : Int) = o := by simp [rdOf, List.getD_eq_getElem?_getD, hlt, ho]
    have e1 : wrap64 ((i : Int) + 1) = ((i + 1 : Nat) : Int) := by rw [wrap_in] <;> omega
    rw [List.drop_eq_getElem_cons hlt, ho, List.find?_cons, e, e1]
    have h1 := by_length t
    have h2 := by_length o
    refine Ev.pos (by omega) (Ev.pos (by omega) ?_)
    by_cases hp : pfxP (by_ o) (by_ t) = true
    · rw [hp]
      have hq := hp
      simp only [pfxP, beq_iff_eq] at hq
      have h3 := congrArg List.length hq
      rw [List.length_take] at h3
      refine Ev.pos (by omega) (Ev.pos (by omega) (Ev.pos (by omega) (Ev.pos ?_ (Ev.now _))))
      rw [toList_by, toList_by, by_extract, List.drop_zero, ← h2]
      exact hq
    · rw [Bool.not_eq_true] at hp
      rw [hp]
      by_cases h4 : (t.size : Int) ≥ (o.size : Int)
      · refine Ev.pos h4 (Ev.pos (by omega) (Ev.pos (by omega) (Ev.neg ?_ ih)))
        rw [toList_by, toList_by, by_extract, List.drop_zero, ← h2]
        intro h5
        simp [pfxP, h5] at hp
      · exact Ev.neg h4 ih
theorem refOp_ev (t : ByteArray) : Ev (fun k => archivistref07_op.f k t) ⟨((opP (by_ t)).getD []).toArray⟩ := by
  unfold archivistref07_op.f
  rw [refOps_f]
  have h := op_loop t opsB (by decide) opsB.length 0 rfl (by omega)
  rw [List.drop_zero] at h
  have h2 := op_find (by_ t) opsB
  rw [opsB_by] at h2
  have e : ((opsB.find? fun o => pfxP (by_ o) (by_ t)).getD ⟨#[]⟩) = ⟨((opP (by_ t)).getD []).toArray⟩ := by
    unfold opP
    rw [← h2]
    cases opsB.find? fun o => pfxP (by_ o) (by_ t) with
    | none => rfl
    | some o =>
      simp only [Option.map_some, Option.getD_some]
      exact (mk_by o).symm
  rw [← e]
  exact Ev.one h
/-! ### one word -/
def nmI (t : ByteArray) (n : Nat) : Int × ByteArray × Int × Int := if 32 < n then (0, ⟨#[]⟩, 0, 0) else (1, t.extract 0 n, 0, (n : Int))
theorem nm_stop (t : ByteArray) (i : Nat) (hi : i ≤ t.size) : Ev (fun _ => if (i : Int) > 32 then some ((0 : Int), (⟨#[]⟩ : ByteArray), (0 : Int), (0 : Int)) else (if (i : Int) ≤ (t.size : Int) then some (1, t.extract 0 (i : Int).toNat, 0, (i : Int)) else none)) (nmI t i) := by
  unfold nmI
  by_cases h : 32 < i
  · rw [if_pos h]
    exact Ev.pos (by omega) (Ev.now _)
  · rw [if_neg h]
    exact Ev.neg (by omega) (Ev.pos (by omega) (Ev.now _))
theorem refName_loop (t : ByteArray) (hz : t.size ≤ 1024) : ∀ (d i : Nat), t.size - i = d → i ≤ t.size →
    Ev (fun k => archivistref07_one.l0 k t (i : Int)) (nmI t (i + (((by_ t).drop i).takeWhile nameC).length))
  | 0, i, hd, hi => by
    have hb := by_length t
    refine Ev.step (fun _ => rfl) ?_
    simp only [archivistref07_one.l0]
    rw [List.drop_of_length_le (by omega)]
    refine Ev.neg (by omega) ?_
    simp only [List.takeWhile_nil, List.length_nil, Nat.add_zero]
    obtain ⟨r, hr⟩ : ∃ r, nmI t i = r := ⟨_, rfl⟩
    have h := nm_stop t i hi
    rw [hr] at h ⊢
    by_cases h2 : (i : Int) > 32
    · refine Ev.pos h2 ?_
      exact Ev.congr (fun n => (if_pos h2).symm) h
    · refine Ev.neg h2 (Ev.pos (by omega) ?_)
      exact Ev.congr (fun n => (if_neg h2).symm) h
  | d + 1, i, hd, hi => by
    have hb := by_length t
    have hlt : i < (by_ t).length := by omega
    have ih := refName_loop t hz d (i + 1) (by omega) (by omega)
    have e1 : wrap64 ((i : Int) + 1) = ((i + 1 : Nat) : Int) := by rw [wrap_in] <;> omega
    refine Ev.step (fun _ => rfl) ?_
    simp only [archivistref07_one.l0]
    have hc := bt_by t i hlt
    rw [List.drop_eq_getElem_cons hlt, List.takeWhile_cons]
    obtain ⟨c, hcc⟩ : ∃ c, (by_ t)[i] = c := ⟨_, rfl⟩
    rw [hcc] at hc ⊢
    rw [hc, e1, letter_f, digit_f]
    refine Ev.pos (by omega) (Ev.pos (by omega) (Ev.one ?_))
    by_cases hn : nameC c = true
    · rw [if_pos hn, List.length_cons]
      have e : i + ((((by_ t).drop (i + 1)).takeWhile nameC).length + 1) = i + 1 + (((by_ t).drop (i + 1)).takeWhile nameC).length := by omega
      rw [e]
      rw [nameC_alt] at hn
      by_cases h1 : letC c = true
      · exact Ev.pos h1 ih
      refine Ev.neg h1 (Ev.one ?_)
      by_cases h2 : digC c = true
      · exact Ev.pos h2 ih
      refine Ev.neg h2 (Ev.pos ?_ ih)
      simp [h1, h2] at hn
      omega
    · rw [if_neg hn, List.length_nil, Nat.add_zero]
      rw [nameC_alt] at hn
      simp only [Bool.or_eq_true, not_or, beq_iff_eq] at hn
      exact Ev.neg hn.1.1 (Ev.one (Ev.neg hn.1.2 (Ev.neg (by omega) (nm_stop t i hi))))
theorem refNum_loop (t : ByteArray) (hz : t.size ≤ 1024) : ∀ (d i : Nat), t.size - i = d → i ≤ t.size →
    Ev (fun k => archivistref07_one.l1 k t (i : Int)) ((fun n : Nat => ((3 : Int), t.extract 0 n, (0 : Int), (n : Int))) (i + (((by_ t).drop i).takeWhile valC).length))
  | 0, i, hd, hi => by
    have hb := by_length t
    refine Ev.step (fun _ => rfl) ?_
    simp only [archivistref07_one.l1]
    rw [List.drop_of_length_le (by omega)]
    exact Ev.neg (by omega) (Ev.pos (by omega) (Ev.pos (by omega) (Ev.now _)))
  | d + 1, i, hd, hi => by
    have hb := by_length t
    have hlt : i < (by_ t).length := by omega
    have ih := refNum_loop t hz d (i + 1) (by omega) (by omega)
    have e1 : wrap64 ((i : Int) + 1) = ((i + 1 : Nat) : Int) := by rw [wrap_in] <;> omega
    refine Ev.step (fun _ => rfl) ?_
    simp only [archivistref07_one.l1]
    have hc := bt_by t i hlt
    rw [List.drop_eq_getElem_cons hlt, List.takeWhile_cons]
    obtain ⟨c, hcc⟩ : ∃ c, (by_ t)[i] = c := ⟨_, rfl⟩
    rw [hcc] at hc ⊢
    rw [hc, e1, letter_f, digit_f]
    refine Ev.pos (by omega) (Ev.pos (by omega) (Ev.one ?_))
    by_cases hn : valC c = true
    · rw [if_pos hn, List.length_cons]
      have e : i + ((((by_ t).drop (i + 1)).takeWhile valC).length + 1) = i + 1 + (((by_ t).drop (i + 1)).takeWhile valC).length := by omega
      rw [e]
      by_cases h1 : letC c = true
      · exact Ev.pos h1 ih
      refine Ev.neg h1 (Ev.one (Ev.pos ?_ ih))
      simp [valC, h1] at hn
      exact hn
    · rw [if_neg hn, List.length_nil, Nat.add_zero]
      simp only [valC, Bool.or_eq_true, not_or] at hn
      exact Ev.neg hn.1 (Ev.one (Ev.neg hn.2 (Ev.pos (by omega) (Ev.now _))))
def oneI (o : Option (Int × List UInt8 × Nat)) : Int × ByteArray × Int × Int := match o with
  | some (k, x, n) => (k, ⟨x.toArray⟩, 0, (n : Int))
  | none => (0, ⟨#[]⟩, 0, 0)
theorem refOne_ev (t : ByteArray) (hz : t.size ≤ 1024) (h0 : 0 < t.size) : Ev (fun k => archivistref07_one.f k t) (oneI (wordP (by_ t))) := by
  have hb := by_length t
  unfold archivistref07_one.f
  refine Ev.bind (refOp_ev t) ?_
  rw [toList_by, by_mk]
  unfold wordP
  cases h1 : opP (by_ t) with
  | some o =>
    have ho : o ≠ [] := by
      have : ∀ y ∈ opsP, y ≠ [] := by decide
      exact this o (List.mem_of_find?_eq_some h1)
    refine Ev.neg (by simpa using ho) (Ev.ret ?_)
    simp only [Option.getD_some, oneI]
    rw [← by_length, by_mk]
  | none =>
    refine Ev.pos rfl (Ev.bind (refGet_ev t (SmallN.of (by omega))) ?_)
    cases h2 : getP (by_ t) with
    | some r =>
      obtain ⟨x, n⟩ := r
      exact Ev.pos rfl (Ev.now _)
    | none =>
      refine Ev.neg (by simp [getI]) (Ev.pos (by omega) ?_)
      cases h3 : by_ t with
      | nil => rw [h3] at hb; simp at hb; omega
      | cons c r =>
        rw [h3] at hb
        simp only [List.length_cons] at hb
        have hc0 : bt t 0 = (c.toNat : Int) := bt_at_ t 0 c (by rw [h3]; rfl)
        rw [hc0, letter_f]
        dsimp only
        refine Ev.one ?_
        have hnum : Ev (fun k => archivistref07_one.l1 k t 1) (oneI (some (3, c :: r.takeWhile valC, 1 + (r.takeWhile valC).length))) := by
          have h := refNum_loop t hz (t.size - 1) 1 rfl (by omega)
          rw [h3] at h
          have e : t.extract 0 (1 + (r.takeWhile valC).length) = ⟨(c :: r.takeWhile valC).toArray⟩ := by
            rw [Nat.add_comm, by_take, h3, List.take_succ_cons, takeWhile_take]
          simp only [List.drop_succ_cons, List.drop_zero] at h
          rw [e] at h
          exact h
        by_cases c1 : (letC c || c.toNat == 95) = true
        · rw [if_pos c1]
          have hgo : Ev (fun k => archivistref07_one.j0 k t 1 true) (oneI (if nameP ((c :: r).takeWhile nameC) = true then some (1, (c :: r).takeWhile nameC, ((c :: r).takeWhile nameC).length) else none)) := by
            refine Ev.step (fun _ => rfl) ?_
            simp only [archivistref07_one.j0]
            refine Ev.pos (by trivial) ?_
            have h := refName_loop t hz (t.size - 1) 1 rfl (by omega)
            rw [h3] at h
            simp only [List.drop_succ_cons, List.drop_zero] at h
            have hnc : nameC c = true := by
              rw [nameC_alt]
              simp only [Bool.or_eq_true, beq_iff_eq] at c1 ⊢
              rcases c1 with c1 | c1
              · exact .inl (.inl c1)
              · exact .inr c1
            have hdg : ¬ (48 ≤ c.toNat ∧ c.toNat ≤ 57) := by
              simp only [letC, Bool.or_eq_true, Bool.and_eq_true, decide_eq_true_eq, beq_iff_eq] at c1
              omega
            rw [List.takeWhile_cons, if_pos hnc]
            have hall : (c :: r.takeWhile nameC).all nameC = true := by
              rw [List.all_eq_true]
              intro x hx
              rcases List.mem_cons.1 hx with rfl | hx
              · exact hnc
              · exact List.all_eq_true.1 (List.all_takeWhile (p := nameC) (l := r)) x hx
            have en : nameP (c :: r.takeWhile nameC) = decide ((r.takeWhile nameC).length < 32) := by
              have : (!(decide (48 ≤ c.toNat) && decide (c.toNat ≤ 57))) = true := by
                rw [Bool.not_eq_true', Bool.and_eq_false_iff, decide_eq_false_iff_not, decide_eq_false_iff_not]
                omega
              rw [nameP, hall, this, Bool.and_true, Bool.and_true]
            have e : t.extract 0 (1 + (r.takeWhile nameC).length) = ⟨(c :: r.takeWhile nameC).toArray⟩ := by
              rw [Nat.add_comm, by_take, h3, List.take_succ_cons, takeWhile_take]
            rw [en]
            by_cases h5 : (r.takeWhile nameC).length < 32
            · rw [if_pos (by simpa using h5)]
              rw [nmI, if_neg (by omega), e] at h
              simp only [oneI, List.length_cons]
              rw [Nat.add_comm (r.takeWhile nameC).length 1]
              exact h
            · rw [if_neg (by simpa using h5)]
              rw [nmI, if_pos (by omega)] at h
              exact h
          by_cases c2 : letC c = true
          · exact Ev.pos c2 hgo
          · refine Ev.neg c2 ?_
            have c3 : c.toNat = 95 := by simpa [c2] using c1
            have e : (((c.toNat : Int)) == 95) = true := by rw [c3]; rfl
            rw [e]
            exact hgo
        · rw [if_neg c1]
          simp only [Bool.or_eq_true, not_or, beq_iff_eq] at c1
          refine Ev.neg c1.1 ?_
          have e : (((c.toNat : Int)) == 95) = false := by rw [beq_eq_false_iff_ne]; omega
          rw [e]
          refine Ev.step (fun _ => rfl) ?_
          simp only [archivistref07_one.j0]
          rw [hc0, digit_f]
          refine Ev.neg (by decide) (Ev.pos (by omega) (Ev.one ?_))
          have hj : Ev (fun k => archivistref07_one.j2 k t 1 true) (oneI (some (3, c :: r.takeWhile valC, 1 + (r.takeWhile valC).length))) := by
            refine Ev.step (fun _ => rfl) ?_
            simp only [archivistref07_one.j2]
            exact Ev.pos (by trivial) hnum
          have hno : Ev (fun k => archivistref07_one.j2 k t 1 false) (oneI none) := by
            refine Ev.step (fun _ => rfl) ?_
            simp only [archivistref07_one.j2]
            exact Ev.neg (by decide) (Ev.now _)
          by_cases c2 : c.toNat = 45
          · have hd : digC c = false := by simp [digC, c2]
            rw [if_pos c2]
            refine Ev.neg (by simp [hd]) (Ev.pos (by omega) ?_)
            cases r with
            | nil =>
              simp at hb
              exact Ev.neg (by omega) hno
            | cons d r =>
              simp only [List.length_cons] at hb
              have hd0 : bt t 1 = (d.toNat : Int) := bt_at_ t 1 d (by rw [h3]; rfl)
              rw [hd0, digit_f]
              refine Ev.pos (by omega) (Ev.pos (by omega) (Ev.one ?_))
              dsimp only
              by_cases c3 : digC d = true
              · rw [if_pos c3, c3]
                exact hj
              · rw [if_neg c3]
                rw [Bool.not_eq_true] at c3
                rw [c3]
                exact hno
          · rw [if_neg c2]
            by_cases c3 : digC c = true
            · rw [if_pos c3]
              have hv : valC c = true := by simp [valC, c3]
              rw [List.takeWhile_cons, if_pos hv, List.length_cons, Nat.add_comm]
              exact Ev.pos c3 hj
            · rw [if_neg c3]
              exact Ev.neg c3 (Ev.neg (by omega) hno)
/-! ### all words -/
def tok (w : S33) : S34 := ⟨w.f0, w.f1, w.f2⟩
def tokI (r : List S33 × Int × Int) : List S34 × Int × Int := (r.1.map tok, r.2.1, r.2.2)
theorem refOne_at (s : ByteArray) (hz : s.size ≤ 1024) (a : Nat) (ha : a < s.size) : Ev (fun k => archivistref07_one.f k (s.extract a s.size)) (oneI (wordP ((by_ s).drop a))) := by
  have hsz : (s.extract a s.size).size = s.size - a := by rw [ByteArray.size_extract, Nat.min_self]
  have hby : by_ (s.extract a s.size) = (by_ s).drop a := by rw [by_extract, List.take_of_length_le (Nat.le_of_eq (by_length s))]
  rw [← hby]
  exact refOne_ev _ (by rw [hsz]; omega) (by rw [hsz]; omega)
theorem small4 (l : List S33) (h : l.length ≤ 1024) : (l.map tok).length < 4398046511104 := by
  rw [List.length_map]
  exact Nat.lt_of_le_of_lt h (by decide)
theorem refAll_loop (s : ByteArray) (hz : s.size ≤ 1024) : ∀ (d a : Nat) (l : List S33), s.size - a ≤ d → a ≤ s.size → l.length ≤ a →
    Ev (fun k => archivistref07_All.l0 k s (l.map tok) (a : Int)) (tokI (allP d ((by_ s).drop a) a l))
  | d, a, l, hd, ha, hl => by
    have hb := by_length s
    by_cases hlt : a < s.size
    · match d, hd with
      | 0, hd => omega
      | d + 1, hd =>
        refine Ev.step (fun _ => rfl) ?_
        simp only [archivistref07_All.l0]
        have hl2 : a < (by_ s).length := by omega
        have hc := bt_by s a hl2
        have hw := refOne_at s hz a hlt
        rw [List.drop_eq_getElem_cons hl2] at hw ⊢
        obtain ⟨c, hcc⟩ : ∃ c, (by_ s)[a] = c := ⟨_, rfl⟩
        rw [hcc] at hc hw ⊢
        rw [hc]
        have e1 : wrap64 ((a : Int) + 1) = ((a + 1 : Nat) : Int) := by rw [wrap_in] <;> omega
        refine Ev.pos (by omega) (Ev.pos (by omega) ?_)
        simp only [allP]
        by_cases c1 : spC c = true
        · rw [if_pos c1]
          have ih := refAll_loop s hz d (a + 1) l (by omega) (by omega) (by omega)
          have hj : Ev (fun k => archivistref07_All.j1 k s (l.map tok) (a : Int) true) (tokI (allP d ((by_ s).drop (a + 1)) (a + 1) l)) := by
            refine Ev.step (fun _ => rfl) ?_
            simp only [archivistref07_All.j1]
            rw [e1]
            exact Ev.pos (by trivial) ih
          simp only [spC, Bool.or_eq_true, beq_iff_eq] at c1
          by_cases c2 : c.toNat = 32
          · exact Ev.pos (by omega) hj
          · refine Ev.neg (by omega) ?_
            by_cases c3 : c.toNat = 9
            · exact Ev.pos (by omega) hj
            · refine Ev.neg (by omega) ?_
              have e : (((c.toNat : Int)) == 10) = true := by rw [beq_iff_eq]; omega
              rw [e]
              exact hj
        · rw [if_neg c1]
          simp only [spC, Bool.or_eq_true, not_or, beq_iff_eq] at c1
          have e : (((c.toNat : Int)) == 10) = false := by rw [beq_eq_false_iff_ne]; omega
          refine Ev.neg (by omega) (Ev.neg (by omega) ?_)
          rw [e]
          refine Ev.step (fun _ => rfl) ?_
          simp only [archivistref07_All.j1]
          rw [Int.toNat_natCast]
          refine Ev.neg (by decide) (Ev.pos (by omega) (Ev.pos (by omega) (Ev.bind hw ?_)))
          cases hp : wordP (c :: (by_ s).drop (a + 1)) with
          | none => exact Ev.pos rfl (Ev.now _)
          | some r =>
            obtain ⟨k, x, n⟩ := r
            have hn := wordP_len hp
            rw [← hcc, ← List.drop_eq_getElem_cons hl2] at hn ⊢
            rw [List.length_drop] at hn
            dsimp only [oneI]
            rw [List.drop_drop]
            have ih := refAll_loop s hz d (a + n) (l ++ [⟨k, ⟨x.toArray⟩, (a : Int)⟩]) (by omega) (by omega) (by simp; omega)
            rw [List.map_append] at ih
            have e2 : wrap64 ((a : Int) + (n : Int)) = ((a + n : Nat) : Int) := by rw [wrap_in] <;> omega
            rw [e2]
            have hn0 : ¬ ((n : Int) = 0) := by
              have := hn.1
              clear e2
              omega
            exact Ev.neg hn0 (Ev.pos (small4 l (Nat.le_trans hl (Nat.le_trans ha hz))) ih)
    · rw [List.drop_of_length_le (by omega)]
      have e : allP d [] a l = (l, (a : Int), 0) := by cases d <;> rfl
      rw [e]
      refine Ev.step (fun _ => rfl) ?_
      simp only [archivistref07_All.l0]
      exact Ev.neg (by omega) (Ev.now _)
theorem refAll_ev (s : ByteArray) (l : List S33) (a e : Int) (h : Ev (fun k => lex_All.f k s) (l, a, e)) : Ev (fun k => archivistref07_All.f k s) (l.map tok, a, e) := by
  have h1 := all_ev s
  have h2 := Ev.fun_ h h1
  unfold archivistref07_All.f
  by_cases hz : 1024 < s.size
  · rw [if_pos hz] at h2
    cases h2
    exact Ev.pos (by omega) (Ev.now _)
  · rw [if_neg hz] at h2
    have h3 := refAll_loop s (by omega) s.size 0 [] (by omega) (by omega) (by simp)
    rw [List.drop_zero, ← h2] at h3
    exact Ev.neg (by omega) h3
end Go.Proofs.Ytifcnblgpnfehaa.B
