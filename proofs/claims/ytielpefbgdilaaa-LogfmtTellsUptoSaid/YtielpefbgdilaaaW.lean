/-
  What the document's answer to chapter 10 tells: it is the program's, for the seat Ytielpefbgdilaaa.
-/
import Derived.Test.YtielpefbgdilaaaX13
import Derived.Test.YtielpefbgdilaaaX17
import Derived.Test.YtielpefbgdilaaaX18
import Derived.Test.YtielpefbgdilaaaX19
import Derived.Test.YtielpefbgdilaaaV
import Derived.Test.YtielpefbgdilaaaR
set_option linter.unusedVariables false
set_option linter.unusedSimpArgs false
namespace Go.Proofs.Ytielpefbgdilaaa.B
open Go.RowKit Go.Proofs.Ytielpefbgdilaaa.X Go.Proofs.YtielpefbgdilaaaW.PrintWords Go.Proofs.YtielpefbgdilaaaW.PrintLast

/-! ### bytes -/
theorem space_all : ∀ n : Fin 256, archivistref10_space.f (n.val : Int) = some (sps.contains (UInt8.ofNat n.val)) := by decide +kernel
theorem space_f (c : UInt8) : archivistref10_space.f (c.toNat : Int) = some (sps.contains c) := by
  have h := space_all ⟨c.toNat, c.toNat_lt⟩
  simpa using h
theorem seps_all : ∀ n : Fin 256, seps.contains (UInt8.ofNat n.val) = (sps.contains (UInt8.ofNat n.val) || (decide (n.val = 61) || decide (n.val = 34))) := by decide +kernel
theorem seps_is (c : UInt8) : seps.contains c = (sps.contains c || (decide (c.toNat = 61) || decide (c.toNat = 34))) := by
  have h := seps_all ⟨c.toNat, c.toNat_lt⟩
  simpa using h

/-! ### All -/
theorem addR (s n v : ByteArray) (l : List Lab) (hl : l.length ≤ 64) (i : Int) (R : List RLab) (h : Ev (fun k => archivistref10_All.l0 k s ((addL l (by_ n) (by_ v)).map toR) i) R) :
    Ev (fun k => (archivistref06_Name.f k n).bind fun t => if t = true then (if (v.size : Int) ≤ 256 then (if (l.map toR).length < 4398046511104 then archivistref10_All.l0 k s (l.map toR ++ [(⟨n, v⟩ : RLab)]) i else none) else archivistref10_All.l0 k s (l.map toR) i) else archivistref10_All.l0 k s (l.map toR) i) R := by
  refine Ev.bind (refName_ev n) ?_
  have hlen : (l.map toR).length = l.length := List.length_map ..
  unfold addL at h
  by_cases h1 : nameP (by_ n) = true
  · refine Ev.pos h1 ?_
    by_cases h2 : v.size ≤ 256
    · rw [if_pos ⟨h1, by rw [by_length]; exact h2⟩] at h
      refine Ev.pos (by omega) (Ev.pos (by omega) ?_)
      rw [List.map_append] at h
      have e : ([⟨⟨(by_ n).toArray⟩, ⟨(by_ v).toArray⟩⟩] : List Lab).map toR = [(⟨n, v⟩ : RLab)] := by rw [← ba_of n _ rfl, ← ba_of v _ rfl]; rfl
      rw [e] at h
      exact h
    · rw [if_neg (fun e => h2 (by have := e.2; rw [by_length] at this; exact this))] at h
      exact Ev.neg (by omega) h
  · rw [if_neg (fun e => h1 e.1)] at h
    exact Ev.neg h1 h
theorem refL1 (s : ByteArray) (hs : s.size ≤ 1048576) (l : List RLab) (i : Int) (R : List RLab) : ∀ (d j : Nat), s.size - j = d → j ≤ s.size →
    Ev (fun k => archivistref10_All.j3 k s l ((j + upN seps ((by_ s).drop j) : Nat) : Int) i) R → Ev (fun k => archivistref10_All.l1 k s l (j : Int) i) R
  | 0, j, hd, hj, h => by
    have hb := by_length s
    rw [List.drop_of_length_le (by omega), upN_nil] at h
    refine Ev.step (fun _ => rfl) ?_
    simp only [archivistref10_All.l1]
    exact Ev.neg (by omega) h
  | d + 1, j, hd, hj, h => by
    have hb := by_length s
    have hlt : j < (by_ s).length := by omega
    have hc := bt_by s j hlt
    rw [List.drop_eq_getElem_cons hlt, upN_cons] at h
    obtain ⟨c, hcc⟩ : ∃ c, (by_ s)[j] = c := ⟨_, rfl⟩
    rw [hcc] at hc h
    refine Ev.step (fun _ => rfl) ?_
    simp only [archivistref10_All.l1]
    rw [hc, w1 j (by omega), space_f]
    refine Ev.pos (by omega) (Ev.pos (by omega) (Ev.one ?_))
    have hsep := seps_is c
    by_cases h1 : sps.contains c = true
    · rw [if_pos (by rw [hsep, h1]; rfl)] at h
      exact Ev.pos h1 h
    · refine Ev.neg h1 ?_
      have h1f : sps.contains c = false := by simpa using h1
      by_cases h2 : c.toNat = 61
      · rw [if_pos (by rw [hsep, decide_eq_true h2]; simp)] at h
        exact Ev.pos (by omega) h
      · refine Ev.neg (by omega) ?_
        by_cases h3 : c.toNat = 34
        · rw [if_pos (by rw [hsep, decide_eq_true h3]; simp)] at h
          exact Ev.pos (by omega) h
        · refine Ev.neg (by omega) ?_
          rw [if_neg (by rw [hsep, h1f, decide_eq_false h2, decide_eq_false h3]; simp), show j + (upN seps ((by_ s).drop (j + 1)) + 1) = j + 1 + upN seps ((by_ s).drop (j + 1)) by omega] at h
          exact refL1 s hs l i R d (j + 1) (by omega) (by omega) h
theorem refL2 (s n x : ByteArray) (hs : s.size ≤ 1048576) (l : List Lab) (hl : l.length ≤ 64) (p : Nat) (R : List RLab)
    (h : Ev (fun k => archivistref10_All.l0 k s ((addL l (by_ n) (((by_ s).drop p).take (upN sps ((by_ s).drop p)))).map toR) ((p + upN sps ((by_ s).drop p) : Nat) : Int)) R) :
    ∀ (d j : Nat), s.size - (p + j) = d → p + j ≤ s.size → upN sps ((by_ s).drop p) = j + upN sps ((by_ s).drop (p + j)) → Ev (fun k => archivistref10_All.l2 k s (l.map toR) (p : Int) (j : Int) n x) R := by
  have hb := by_length s
  have stop : ∀ j : Nat, p + j ≤ s.size → upN sps ((by_ s).drop p) = j → Ev (fun k => if 0 ≤ (p : Int) then (if (p : Int) ≤ ((p + j : Nat) : Int) then (if ((p + j : Nat) : Int) ≤ (s.size : Int) then ((archivistref06_Name.f k n).bind fun t => if t = true then (if ((s.extract (p : Int).toNat ((p + j : Nat) : Int).toNat).size : Int) ≤ 256 then (if (l.map toR).length < 4398046511104 then archivistref10_All.l0 k s (l.map toR ++ [(⟨n, s.extract (p : Int).toNat ((p + j : Nat) : Int).toNat⟩ : RLab)]) ((p + j : Nat) : Int) else none) else archivistref10_All.l0 k s (l.map toR) ((p + j : Nat) : Int)) else archivistref10_All.l0 k s (l.map toR) ((p + j : Nat) : Int)) else none) else none) else none) R := by
    intro j hj hu
    rw [hu] at h
    have hv : by_ (s.extract (p : Int).toNat ((p + j : Nat) : Int).toNat) = ((by_ s).drop p).take j := by
      rw [Int.toNat_natCast, Int.toNat_natCast, by_extract, List.drop_take]
      congr 1
      omega
    refine Ev.pos (by omega) (Ev.pos (by omega) (Ev.pos (by omega) ?_))
    exact addR s n (s.extract (p : Int).toNat ((p + j : Nat) : Int).toNat) l hl _ R (by rw [hv]; exact h)
  intro d
  induction d with
  | zero =>
    intro j hd hj hu
    rw [show (by_ s).drop (p + j) = [] from List.drop_of_length_le (by omega), upN_nil] at hu
    refine Ev.step (fun _ => rfl) ?_
    simp only [archivistref10_All.l2]
    rw [show wrap64 ((p : Int) + (j : Int)) = ((p + j : Nat) : Int) by rw [wrap_in] <;> omega]
    exact Ev.neg (by omega) (stop j hj hu)
  | succ d ih =>
    intro j hd hj hu
    have hlt : p + j < (by_ s).length := by omega
    have hc := bt_by s (p + j) hlt
    rw [List.drop_eq_getElem_cons hlt, upN_cons] at hu
    obtain ⟨c, hcc⟩ : ∃ c, (by_ s)[p + j] = c := ⟨_, rfl⟩
    rw [hcc] at hc hu
    refine Ev.step (fun _ => rfl) ?_
    simp only [archivistref10_All.l2]
    rw [show wrap64 ((p : Int) + (j : Int)) = ((p + j : Nat) : Int) by rw [wrap_in] <;> omega, hc, space_f, w1 j (by omega)]
    refine Ev.pos (by omega) (Ev.pos (by omega) (Ev.one ?_))
    by_cases h1 : sps.contains c = true
    · rw [if_pos h1] at hu
      exact Ev.pos h1 (stop j hj hu)
    · rw [if_neg h1] at hu
      exact Ev.neg h1 (ih (j + 1) (by omega) (by omega) (by rw [hu]; simp only [← Nat.add_assoc]; omega))
theorem refAll_loop (s : ByteArray) (hs : s.size ≤ 1048576) : ∀ (d i : Nat) (l : List Lab), s.size - i ≤ d → i ≤ s.size → l.length ≤ 64 →
    Ev (fun k => archivistref10_All.l0 k s (l.map toR) (i : Int)) ((allW ((by_ s).drop i) l).map toR) := by
  have hb := by_length s
  have hend : ∀ (l : List Lab), Ev (fun k => archivistref10_All.l0 k s (l.map toR) (s.size : Int)) ((allW ((by_ s).drop s.size) l).map toR) := by
    intro l
    rw [List.drop_of_length_le (by omega), allW_nil]
    refine Ev.step (fun _ => rfl) ?_
    simp only [archivistref10_All.l0]
    refine Ev.neg (by omega) (Ev.step (fun _ => rfl) ?_)
    simp only [archivistref10_All.j1]
    exact Ev.neg (by simp) (Ev.now _)
  intro d
  induction d with
  | zero =>
    intro i l hd hi hl
    obtain rfl : i = s.size := by omega
    exact hend l
  | succ d ih =>
    intro i l hd hi hl
    rcases Nat.lt_or_ge i s.size with hlt | hge
    · have hm : ((l.map toR).length : Int) = (l.length : Int) := by rw [List.length_map]
      refine Ev.step (fun _ => rfl) ?_
      simp only [archivistref10_All.l0]
      refine Ev.pos (by omega) ?_
      refine Ev.step (fun _ => rfl) ?_
      simp only [archivistref10_All.j1]
      by_cases h64 : l.length < 64
      · refine Ev.pos (decide_eq_true (by omega)) ?_
        obtain ⟨T, hT⟩ : ∃ T, (by_ s).drop i = T := ⟨_, rfl⟩
        have hTl : T.length = s.size - i := by rw [← hT, List.length_drop, hb]
        have hne : T ≠ [] := by intro e; rw [e] at hTl; simp at hTl; omega
        have hTd : ∀ m, T.drop m = (by_ s).drop (i + m) := fun m => by rw [← hT, List.drop_drop]
        obtain ⟨x, hx, hx1, _⟩ := fieldL_lab T l
        have go : ∀ (j : Nat) (L : List Lab), 1 ≤ j → i + j ≤ s.size → fieldL T l = (T.drop j, L) → Ev (fun k => archivistref10_All.l0 k s (L.map toR) ((i + j : Nat) : Int)) ((allW T l).map toR) := by
          intro j L hj1 hj e
          rw [allW_step hne h64, e, hTd]
          exact ih (i + j) L (by omega) hj (by rw [e] at hx; simp only at hx; rw [hx, List.length_append]; omega)
        refine refL1 s hs _ _ _ (s.size - i) i rfl hi ?_
        rw [hT]
        obtain ⟨m, hm⟩ : ∃ m, upN seps T = m := ⟨_, rfl⟩
        have hmle := upN_le seps T
        rw [hm] at hmle ⊢
        refine Ev.step (fun _ => rfl) ?_
        simp only [archivistref10_All.j3]
        by_cases c0 : m = 0
        · have e : fieldL T l = (T.drop 1, l) := by unfold fieldL; rw [hm, if_pos c0]
          rw [w1 (i + m) (by omega), c0]
          exact Ev.pos (by omega) (go 1 l (by omega) (by omega) e)
        · have ef : fieldL T l = if (T.drop m).head? = some 61 then valL (T.take m) (T.drop (m + 1)) l else (T.drop m, addL l (T.take m) []) := by unfold fieldL; rw [hm, if_neg c0]
          have en : by_ (s.extract (i : Int).toNat ((i + m : Nat) : Int).toNat) = T.take m := by
            rw [Int.toNat_natCast, Int.toNat_natCast, by_extract, List.drop_take, hT]
            congr 1
            omega
          obtain ⟨n, hn⟩ : ∃ n, s.extract (i : Int).toNat ((i + m : Nat) : Int).toNat = n := ⟨_, rfl⟩
          rw [hn] at en ⊢
          have plain : (T.drop m).head? ≠ some 61 → Ev (fun k => archivistref10_All.j4 k s (l.map toR) ((i + m : Nat) : Int) false n (⟨#[]⟩ : ByteArray)) ((allW T l).map toR) := by
            intro h61
            rw [if_neg h61] at ef
            refine Ev.step (fun _ => rfl) ?_
            simp only [archivistref10_All.j4]
            refine Ev.neg (by simp) ?_
            exact addR s n ⟨#[]⟩ l hl _ _ (by rw [en]; exact go m _ (by omega) (by omega) ef)
          refine Ev.neg (by omega) (Ev.pos (by omega) (Ev.pos (by omega) (Ev.pos (by omega) ?_)))
          by_cases hend2 : i + m < s.size
          · have hlt2 : i + m < (by_ s).length := by omega
            have hc := bt_by s (i + m) hlt2
            have hh : (T.drop m).head? = some (by_ s)[i + m] := by rw [hTd, List.drop_eq_getElem_cons hlt2]; rfl
            obtain ⟨c, hcc⟩ : ∃ c, (by_ s)[i + m] = c := ⟨_, rfl⟩
            rw [hcc] at hc hh
            rw [hc]
            refine Ev.pos (by omega) (Ev.pos (by omega) ?_)
            by_cases h61 : c.toNat = 61
            · have hc61 : c = 61 := UInt8.toNat_inj.1 h61
              rw [if_pos (by rw [hh, hc61])] at ef
              rw [show ((c.toNat : Int) == 61) = true by rw [h61]; rfl]
              refine Ev.step (fun _ => rfl) ?_
              simp only [archivistref10_All.j4]
              rw [w1 (i + m) (by omega)]
              refine Ev.pos (by trivial) (Ev.pos (by omega) (Ev.pos (by omega) ?_))
              have eq_ : by_ (s.extract ((i + m + 1 : Nat) : Int).toNat s.size) = T.drop (m + 1) := by
                rw [Int.toNat_natCast, by_extract, List.take_of_length_le (by omega), hTd, Nat.add_assoc]
              have hqz : (s.extract ((i + m + 1 : Nat) : Int).toNat s.size).size = T.length - (m + 1) := by rw [← by_length, eq_, List.length_drop]
              refine Ev.bind (refGet_ev _ (SmallN.of (by omega))) ?_
              rw [eq_]
              unfold valL at ef
              cases hg : getP (T.drop (m + 1)) with
              | some r =>
                obtain ⟨v, z⟩ := r
                have hz := getP_len' hg
                rw [List.length_drop] at hz
                rw [hg] at ef
                simp only [List.drop_drop] at ef
                simp only [getI]
                refine Ev.pos (by trivial) ?_
                rw [show wrap64 (((i + m + 1 : Nat) : Int) + (z : Int)) = ((i + (m + 1 + z) : Nat) : Int) by rw [wrap_in] <;> omega]
                exact addR s n ⟨v.toArray⟩ l hl _ _ (by rw [en, by_mk]; exact go (m + 1 + z) _ (by omega) (by omega) ef)
              | none =>
                rw [hg] at ef
                simp only [List.drop_drop] at ef
                simp only [getI]
                refine Ev.neg (by simp) ?_
                have hu := upN_le sps (T.drop (m + 1))
                rw [List.length_drop] at hu
                have e2 : (by_ s).drop (i + m + 1) = T.drop (m + 1) := by rw [hTd, Nat.add_assoc]
                refine refL2 s n ⟨#[]⟩ hs l hl (i + m + 1) _ ?_ (s.size - (i + m + 1)) 0 rfl (by omega) (by rw [Nat.add_zero, Nat.zero_add])
                rw [e2, en, show i + m + 1 + upN sps (T.drop (m + 1)) = i + (m + 1 + upN sps (T.drop (m + 1))) by omega]
                exact go (m + 1 + upN sps (T.drop (m + 1))) _ (by omega) (by omega) ef
            · rw [show ((c.toNat : Int) == 61) = false by rw [beq_eq_false_iff_ne]; omega]
              exact plain (by rw [hh]; intro e; exact h61 (by rw [Option.some.inj e]; rfl))
          · refine Ev.neg (by omega) (plain ?_)
            rw [List.drop_of_length_le (by omega)]
            simp
      · refine Ev.neg (by simp; omega) ?_
        rw [allW_full _ _ h64]
        exact Ev.now _
    · obtain rfl : i = s.size := by omega
      exact hend l
theorem refAll_ev (s : ByteArray) (hs : s.size ≤ 1048576) : Ev (fun k => archivistref10_All.f k s) ((allW (by_ s) []).map toR) := by
  have h := refAll_loop s hs s.size 0 [] (by omega) (Nat.zero_le _) (by simp)
  rw [List.drop_zero] at h
  exact h

/-! ### Of -/
theorem refOf10_loop (A : List Lab) (hA : A.length ≤ 64) : ∀ (i : Nat), i ≤ A.length →
    Ev (fun k => archivistref10_Of.l0 k (A.map toR) ((A.drop i).reverse.map toR) ((i : Int) - 1)) (((ofP [] A.reverse).take 16).map toR) := by
  have hm : (A.map toR).length = A.length := List.length_map ..
  intro i
  induction i with
  | zero =>
    intro hi
    refine Ev.step (fun _ => rfl) ?_
    simp only [archivistref10_Of.l0]
    rw [List.drop_zero]
    refine Ev.neg (by omega) (Ev.bind (refOf_ev A.reverse (by rw [List.length_reverse]; omega)) ?_)
    have hm2 : ((ofP [] A.reverse).map toR).length = (ofP [] A.reverse).length := List.length_map ..
    unfold mn
    rw [List.map_take]
    by_cases h : (16 : Int) < (((ofP [] A.reverse).map toR).length : Int)
    · rw [if_pos h]
      exact Ev.pos (by omega) (Ev.pos (by omega) (Ev.ret rfl))
    · rw [if_neg h]
      refine Ev.pos (by omega) (Ev.pos (by omega) (Ev.ret ?_))
      rw [Int.toNat_natCast, List.take_of_length_le (Nat.le_refl _), List.take_of_length_le (by omega)]
  | succ i ih =>
    intro hi
    have hlt : i < A.length := by omega
    have ih' := ih (by omega)
    rw [List.drop_eq_getElem_cons hlt, List.reverse_cons, List.map_append] at ih'
    have hl2 : ((A.drop (i + 1)).reverse.map toR).length ≤ 64 := by rw [List.length_map, List.length_reverse, List.length_drop]; omega
    refine Ev.step (fun _ => rfl) ?_
    simp only [archivistref10_Of.l0]
    rw [show ((i + 1 : Nat) : Int) - 1 = (i : Int) by omega, rdR A i hlt, show wrap64 ((i : Int) - 1) = (i : Int) - 1 by rw [wrap_in] <;> omega]
    exact Ev.pos (by omega) (Ev.pos (by omega) (Ev.pos (by omega) (Ev.pos (by omega) ih')))
theorem refOf10_ev (s : ByteArray) (hs : s.size ≤ 1048576) : Ev (fun k => archivistref10_Of.f k s) ((ofW (by_ s)).map toR) := by
  have h64 := (all_ok (by_ s)).1
  have hm : ((allW (by_ s) []).map toR).length = (allW (by_ s) []).length := List.length_map ..
  unfold archivistref10_Of.f
  refine Ev.bind (refAll_ev s hs) ?_
  have h := refOf10_loop (allW (by_ s) []) h64 (allW (by_ s) []).length (Nat.le_refl _)
  rw [List.drop_of_length_le (Nat.le_refl _)] at h
  rw [hm, show wrap64 (((allW (by_ s) []).length : Int) - 1) = ((allW (by_ s) []).length : Int) - 1 by rw [wrap_in] <;> omega]
  exact h

/-! ### Put -/
theorem refPut10_loop (l : List Lab) (hl : l.length ≤ 1000) (hz : ∀ p ∈ l, p.f0.size ≤ 1048576 ∧ p.f1.size ≤ 1048576) : ∀ (d i : Nat) (acc : ByteArray), l.length - i = d → 0 < i → i ≤ l.length → acc.size ≤ 10000000 * i →
    Ev (fun k => archivistref10_Put.l0 k (l.map toR) acc (i : Int)) (acc ++ ⟨(sufF (l.drop i)).toArray⟩) := by
  have hm : (l.map toR).length = l.length := List.length_map ..
  intro d
  induction d with
  | zero =>
    intro i acc hd h0 hi ha
    refine Ev.step (fun _ => rfl) ?_
    simp only [archivistref10_Put.l0]
    rw [List.drop_of_length_le (by omega)]
    refine Ev.neg (by omega) (Ev.ret ?_)
    apply by_ext
    rw [by_append, by_mk]
    exact (List.append_nil _).symm
  | succ d ih =>
    intro i acc hd h0 hi ha
    have hlt : i < l.length := by omega
    have hp := hz _ (List.getElem_mem hlt)
    rw [List.drop_eq_getElem_cons hlt]
    refine Ev.step (fun _ => rfl) ?_
    simp only [archivistref10_Put.l0]
    rw [rdR l i hlt, w1 i (by omega)]
    dsimp only
    obtain ⟨w, hw⟩ : ∃ w : ByteArray, w = ⟨(putP (by_ l[i].f1)).toArray⟩ := ⟨_, rfl⟩
    have hbw : by_ w = putP (by_ l[i].f1) := by rw [hw, by_mk]
    have hwz : w.size ≤ 4 * l[i].f1.size + 2 := by
      rw [← by_length, hbw, putP_len]
      have := (flat_len (by_ l[i].f1)).2
      rw [by_length] at this
      omega
    have hv := refPut_ev l[i].f1 hp.2
    rw [← hw] at hv
    have z1 : (⟨#[32]⟩ : ByteArray).size = 1 := rfl
    have z2 : (⟨#[61]⟩ : ByteArray).size = 1 := rfl
    refine Ev.pos (by omega) (Ev.pos (by omega) (Ev.pos (by omega) (Ev.pos (by omega) (Ev.pos (by rw [ByteArray.size_append, z1]; omega) (Ev.pos (by rw [ByteArray.size_append, ByteArray.size_append, z1]; omega) (Ev.bind hv (Ev.pos (by rw [ByteArray.size_append, ByteArray.size_append, ByteArray.size_append, z1, z2]; omega) ?_)))))))
    have ih' := ih (i + 1) (acc ++ ⟨#[32]⟩ ++ l[i].f0 ++ ⟨#[61]⟩ ++ w) (by omega) (by omega) (by omega) (by rw [ByteArray.size_append, ByteArray.size_append, ByteArray.size_append, ByteArray.size_append, z1, z2]; omega)
    have e : acc ++ (⟨(sufF (l[i] :: l.drop (i + 1))).toArray⟩ : ByteArray) = (acc ++ ⟨#[32]⟩ ++ l[i].f0 ++ ⟨#[61]⟩ ++ w) ++ ⟨(sufF (l.drop (i + 1))).toArray⟩ := by
      apply by_ext
      generalize hq : l.drop (i + 1) = q
      generalize l[i] = p at hbw
      rw [by_append acc, by_append (acc ++ ⟨#[32]⟩ ++ p.f0 ++ ⟨#[61]⟩ ++ w), by_append, by_append, by_append, by_append, by_mk (sufF (p :: q)), by_mk (sufF q), hbw, by_mk [32], by_mk [61]]
      unfold sufF
      rw [List.flatMap_cons]
      unfold fieldB
      simp
    rw [e]
    exact ih'
theorem refPut10_ev (l : List Lab) (hl : l.length ≤ 1000) (hz : ∀ p ∈ l, p.f0.size ≤ 1048576 ∧ p.f1.size ≤ 1048576) : Ev (fun k => archivistref10_Put.f k (l.map toR)) ⟨(putF l).toArray⟩ := by
  unfold archivistref10_Put.f
  have hm : (l.map toR).length = l.length := List.length_map ..
  cases hl0 : l with
  | nil =>
    refine Ev.step (fun _ => rfl) ?_
    simp only [archivistref10_Put.l0]
    exact Ev.neg (by simp) (Ev.now _)
  | cons p q =>
    rw [← hl0]
    have hlt : 0 < l.length := by rw [hl0]; simp
    have h0 : l[0] = p := by simp [hl0]
    have hp := hz _ (List.getElem_mem hlt)
    refine Ev.step (fun _ => rfl) ?_
    simp only [archivistref10_Put.l0]
    have hr := rdR l 0 hlt
    rw [h0] at hr hp
    rw [show (0 : Int) = ((0 : Nat) : Int) from rfl, hr, w1 0 (by decide)]
    dsimp only
    obtain ⟨w, hw⟩ : ∃ w : ByteArray, w = ⟨(putP (by_ p.f1)).toArray⟩ := ⟨_, rfl⟩
    have hbw : by_ w = putP (by_ p.f1) := by rw [hw, by_mk]
    have hwz : w.size ≤ 4 * p.f1.size + 2 := by
      rw [← by_length, hbw, putP_len]
      have := (flat_len (by_ p.f1)).2
      rw [by_length] at this
      omega
    have hv := refPut_ev p.f1 hp.2
    rw [← hw] at hv
    have z0 : (⟨#[]⟩ : ByteArray).size = 0 := rfl
    have z2 : (⟨#[61]⟩ : ByteArray).size = 1 := rfl
    refine Ev.pos (by omega) (Ev.neg (by omega) (Ev.pos (by omega) (Ev.pos (by omega) (Ev.pos (by rw [ByteArray.size_append, z0]; omega) (Ev.bind hv (Ev.pos (by rw [ByteArray.size_append, ByteArray.size_append, z0, z2]; omega) ?_))))))
    have h := refPut10_loop l hl hz (l.length - 1) 1 (⟨#[]⟩ ++ p.f0 ++ ⟨#[61]⟩ ++ w) rfl (by omega) (by omega) (by rw [ByteArray.size_append, ByteArray.size_append, ByteArray.size_append, z0, z2]; omega)
    have e : (⟨#[]⟩ ++ p.f0 ++ ⟨#[61]⟩ ++ w) ++ (⟨(sufF (l.drop 1)).toArray⟩ : ByteArray) = ⟨(putF l).toArray⟩ := by
      apply by_ext
      rw [hl0, by_append, by_append, by_append, by_append, by_mk, by_mk (putF (p :: q)), hbw, by_mk [61]]
      unfold putF fieldB
      simp [by_mk]
    rw [e] at h
    exact h
end Go.Proofs.Ytielpefbgdilaaa.B
