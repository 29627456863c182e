/-
  The first part of a text of numbers and units: where its number and its unit end, for the seat YtpijoadbaocnpaaDoor.
-/
import Derived.Test.YtpijoadbaocnpaaDoorX1
import Derived.Test.YtpijoadbaocnpaaDoorX2
import Derived.Test.YtpijoadbaocnpaaDoorT
import Derived.Lib.DecodeN
set_option linter.unusedVariables false
set_option linter.unusedSimpArgs false
namespace Go.Proofs.YtpijoadbaocnpaaDoor.Pure
open Go.RowKit Go.Proofs.YtpijoadbaocnpaaDoor.X Go.Proofs.YtpijoadbaocnpaaDoor.B Go.Proofs.YtpijoadbaocnpaaDoorW.PrintWords Go.Proofs.YtpijoadbaocnpaaDoorW.PrintLast
open Lib (itoa decodeN idxFunc idxFuncFrom)

/-! ### where the first digit, or the first other sign, stands -/
def isD (c : UInt8) : Bool := decide (48 ≤ c.toNat) && decide (c.toNat ≤ 57)
def notD (c : UInt8) : Bool := !(isD c)
theorem decodeN_low {n b0 b1 b2 b3 : Nat} (h : b0 < 128) : decodeN n b0 b1 b2 b3 = (b0, 1) := by
  unfold decodeN
  rw [if_pos h]
theorem decodeN_high {n b0 b1 b2 b3 : Nat} (h : ¬ b0 < 128) (hb : b0 < 256) : 128 ≤ (decodeN n b0 b1 b2 b3).1 ∧ ((decodeN n b0 b1 b2 b3).2 = 1 ∨ (decodeN n b0 b1 b2 b3).2 = 2 ∧ 1 < n ∧ 128 ≤ b1 ∨
    (decodeN n b0 b1 b2 b3).2 = 3 ∧ 2 < n ∧ 128 ≤ b1 ∧ 128 ≤ b2 ∨ (decodeN n b0 b1 b2 b3).2 = 4 ∧ 3 < n ∧ 128 ≤ b1 ∧ 128 ≤ b2 ∧ 128 ≤ b3) := by
  unfold decodeN
  rw [if_neg h]
  repeat' split
  all_goals dsimp only
  all_goals omega
theorem get_at (s : ByteArray) (i : Nat) (h : i < (by_ s).length) : s.get! i = (by_ s)[i] := by
  have h2 : i < s.data.size := by simpa [by_] using h
  show s.data[i]! = _
  rw [getElem!_pos s.data i h2]
  rfl
section
variable (s : ByteArray)
def firstOth (pos : Nat) : Int := if ((by_ s).drop pos).all isD = true then -1 else ((pos + (((by_ s).drop pos).takeWhile isD).length : Nat) : Int)
def firstDig (pos : Nat) : Int := if ((by_ s).drop pos).all notD = true then -1 else ((pos + (((by_ s).drop pos).takeWhile notD).length : Nat) : Int)
theorem firstOth_skip (pos : Nat) (h : pos < (by_ s).length) (hd : isD (by_ s)[pos] = true) : firstOth s pos = firstOth s (pos + 1) := by
  unfold firstOth
  rw [List.drop_eq_getElem_cons h, List.all_cons, hd, Bool.true_and, List.takeWhile_cons, hd, if_pos rfl, List.length_cons]
  congr 2
  omega
theorem firstDig_skip (pos : Nat) (h : pos < (by_ s).length) (hd : notD (by_ s)[pos] = true) : firstDig s pos = firstDig s (pos + 1) := by
  unfold firstDig
  rw [List.drop_eq_getElem_cons h, List.all_cons, hd, Bool.true_and, List.takeWhile_cons, hd, if_pos rfl, List.length_cons]
  congr 2
  omega
theorem firstOth_here (pos : Nat) (h : pos < (by_ s).length) (hd : isD (by_ s)[pos] = false) : firstOth s pos = (pos : Int) := by
  unfold firstOth
  rw [List.drop_eq_getElem_cons h, List.all_cons, hd, Bool.false_and, if_neg (by simp), List.takeWhile_cons, hd]
  rfl
theorem firstDig_here (pos : Nat) (h : pos < (by_ s).length) (hd : notD (by_ s)[pos] = false) : firstDig s pos = (pos : Int) := by
  unfold firstDig
  rw [List.drop_eq_getElem_cons h, List.all_cons, hd, Bool.false_and, if_neg (by simp), List.takeWhile_cons, hd]
  rfl
theorem high_not {c : UInt8} (h : 128 ≤ c.toNat) : isD c = false ∧ notD c = true := by
  have : isD c = false := by
    unfold isD
    rw [Bool.and_eq_false_iff]
    right
    exact decide_eq_false (by omega)
  exact ⟨this, by unfold notD; rw [this]; rfl⟩
theorem idx_oth : ∀ (f pos : Nat), s.size - pos ≤ f → pos ≤ s.size → idxFuncFrom othN true s f pos = firstOth s pos := by
  have hb := by_length s
  intro f
  induction f with
  | zero =>
    intro pos h1 h2
    unfold firstOth
    rw [List.drop_of_length_le (by omega)]
    rfl
  | succ f ih =>
    intro pos h1 h2
    simp only [idxFuncFrom]
    by_cases hlt : pos < s.size
    · have hl : pos < (by_ s).length := by omega
      rw [if_pos hlt, Lib.decode_at, get_at s pos hl]
      have hc := ((by_ s)[pos]).toNat_lt
      by_cases h128 : ((by_ s)[pos]).toNat < 128
      · rw [decodeN_low h128]
        by_cases hd : isD (by_ s)[pos] = true
        · have : othN ((by_ s)[pos]).toNat = false := by unfold othN digN; unfold isD at hd; rw [hd]; rfl
          rw [if_neg (by rw [this]; simp), firstOth_skip s pos hl hd]
          exact ih (pos + 1) (by omega) (by omega)
        · have hd' : isD (by_ s)[pos] = false := by simpa using hd
          have : othN ((by_ s)[pos]).toNat = true := by unfold othN digN; unfold isD at hd'; rw [hd']; rfl
          rw [if_pos this, firstOth_here s pos hl hd']
      · obtain ⟨hr, _⟩ := decodeN_high (n := s.size - pos) (b1 := (s.get! (pos + 1)).toNat) (b2 := (s.get! (pos + 2)).toNat) (b3 := (s.get! (pos + 3)).toNat) h128 hc
        have : othN (decodeN (s.size - pos) ((by_ s)[pos]).toNat (s.get! (pos + 1)).toNat (s.get! (pos + 2)).toNat (s.get! (pos + 3)).toNat).1 = true := by
          unfold othN digN
          rw [Bool.not_eq_true', Bool.and_eq_false_iff]
          right
          exact decide_eq_false (by omega)
        rw [if_pos this, firstOth_here s pos hl (high_not (by omega)).1]
    · rw [if_neg hlt]
      unfold firstOth
      rw [List.drop_of_length_le (by omega)]
      rfl
theorem idx_dig : ∀ (f pos : Nat), s.size - pos ≤ f → pos ≤ s.size → idxFuncFrom digN true s f pos = firstDig s pos := by
  have hb := by_length s
  intro f
  induction f with
  | zero =>
    intro pos h1 h2
    unfold firstDig
    rw [List.drop_of_length_le (by omega)]
    rfl
  | succ f ih =>
    intro pos h1 h2
    simp only [idxFuncFrom]
    by_cases hlt : pos < s.size
    · have hl : pos < (by_ s).length := by omega
      rw [if_pos hlt, Lib.decode_at, get_at s pos hl]
      have hc := ((by_ s)[pos]).toNat_lt
      by_cases h128 : ((by_ s)[pos]).toNat < 128
      · rw [decodeN_low h128]
        by_cases hd : isD (by_ s)[pos] = true
        · have : digN ((by_ s)[pos]).toNat = true := by unfold digN; unfold isD at hd; exact hd
          rw [if_pos this, firstDig_here s pos hl (by unfold notD; rw [hd]; rfl)]
        · have hd' : isD (by_ s)[pos] = false := by simpa using hd
          have : digN ((by_ s)[pos]).toNat = false := by unfold digN; unfold isD at hd'; exact hd'
          rw [if_neg (by rw [this]; simp), firstDig_skip s pos hl (by unfold notD; rw [hd']; rfl)]
          exact ih (pos + 1) (by omega) (by omega)
      · obtain ⟨hr, hw⟩ := decodeN_high (n := s.size - pos) (b1 := (s.get! (pos + 1)).toNat) (b2 := (s.get! (pos + 2)).toNat) (b3 := (s.get! (pos + 3)).toNat) h128 hc
        generalize decodeN (s.size - pos) ((by_ s)[pos]).toNat (s.get! (pos + 1)).toNat (s.get! (pos + 2)).toNat (s.get! (pos + 3)).toNat = q at *
        have : digN q.1 = false := by
          unfold digN
          rw [Bool.and_eq_false_iff]
          right
          exact decide_eq_false (by omega)
        rw [if_neg (by rw [this]; simp), firstDig_skip s pos hl (high_not (by omega)).2]
        have k1 : 1 < s.size - pos → 128 ≤ (s.get! (pos + 1)).toNat → firstDig s (pos + 1) = firstDig s (pos + 2) := fun hn hg => by
          rw [get_at s (pos + 1) (by omega)] at hg
          exact firstDig_skip s (pos + 1) (by omega) (high_not hg).2
        have k2 : 2 < s.size - pos → 128 ≤ (s.get! (pos + 2)).toNat → firstDig s (pos + 2) = firstDig s (pos + 3) := fun hn hg => by
          rw [get_at s (pos + 2) (by omega)] at hg
          exact firstDig_skip s (pos + 2) (by omega) (high_not hg).2
        have k3 : 3 < s.size - pos → 128 ≤ (s.get! (pos + 3)).toNat → firstDig s (pos + 3) = firstDig s (pos + 4) := fun hn hg => by
          rw [get_at s (pos + 3) (by omega)] at hg
          exact firstDig_skip s (pos + 3) (by omega) (high_not hg).2
        rcases hw with hw | ⟨hw, g0, g1⟩ | ⟨hw, g0, g1, g2⟩ | ⟨hw, g0, g1, g2, g3⟩
        · rw [hw]
          exact ih (pos + 1) (by omega) (by omega)
        · rw [hw, k1 g0 g1]
          exact ih (pos + 2) (by omega) (by omega)
        · rw [hw, k1 (by omega) g1, k2 g0 g2]
          exact ih (pos + 3) (by omega) (by omega)
        · rw [hw, k1 (by omega) g1, k2 (by omega) g2, k3 g0 g3]
          exact ih (pos + 4) (by omega) (by omega)
    · rw [if_neg hlt]
      unfold firstDig
      rw [List.drop_of_length_le (by omega)]
      rfl
end
theorem idx_oth' (s : ByteArray) : idxFunc othN true s = if (by_ s).all isD = true then -1 else ((((by_ s).takeWhile isD).length : Nat) : Int) := by
  unfold idxFunc
  rw [idx_oth s s.size 0 (by omega) (by omega)]
  unfold firstOth
  rw [List.drop_zero, Nat.zero_add]
theorem idx_dig' (s : ByteArray) : idxFunc digN true s = if (by_ s).all notD = true then -1 else ((((by_ s).takeWhile notD).length : Nat) : Int) := by
  unfold idxFunc
  rw [idx_dig s s.size 0 (by omega) (by omega)]
  unfold firstDig
  rw [List.drop_zero, Nat.zero_add]

/-! ### the part -/
abbrev Un := S59
theorem rdUn (l : List Un) (i : Nat) (h : i < l.length) : rd_T59 l (i : Int) = l[i] := by simp [rd_T59, h]
/-- the number's digits, the unit's signs, what stands behind -/
def numL (l : List UInt8) : List UInt8 := l.takeWhile isD
def unitL (l : List UInt8) : List UInt8 := (l.dropWhile isD).takeWhile notD
def restL (l : List UInt8) : List UInt8 := (l.dropWhile isD).dropWhile notD
/-- the place of a unit among some -/
def placeU : List (List UInt8) → List UInt8 → Nat → Option Nat
  | [], _, _ => none
  | x :: L, e, i => if x = e then some i else placeU L e (i + 1)
theorem placeU_lt : ∀ (L : List (List UInt8)) (e : List UInt8) (i u : Nat), placeU L e i = some u → i ≤ u ∧ u < i + L.length ∧ ∀ (h : u - i < L.length), L[u - i] = e
  | [], _, _, _, h => by simp [placeU] at h
  | x :: L, e, i, u, h => by
    unfold placeU at h
    split at h
    · rename_i hx
      obtain rfl := Option.some.inj h
      refine ⟨Nat.le_refl _, by simp, fun h => ?_⟩
      simp [hx]
    · obtain ⟨h1, h2, h3⟩ := placeU_lt L e (i + 1) u h
      refine ⟨by omega, by simp; omega, fun h => ?_⟩
      have e1 : u - i = (u - (i + 1)) + 1 := by omega
      have h4 := h3 (by simp at h; omega)
      simp only [e1, List.getElem_cons_succ]
      exact h4
/-- the number, the unit's place, and what stands behind -/
def unitP (L : List (List UInt8)) (l : List UInt8) : Option (Int × Nat × List UInt8) := match parseN (numL l) with
  | (p, true) => (placeU L (unitL l) 0).map fun u => (p, u, restL l)
  | (_, false) => none
theorem mul100 {a b : Int} (ha : in64 a) (hb : in64 b) : num_Mul.f 100 [a, b] = some (mulP2 a b) := by
  unfold num_Mul.f num_fold_num_times.f
  show (num_fold_num_times.l0 (97 + 1 + 1 + 1) 1 [a, b] (([a, b] : List Int).length : Int) 0).bind _ = _
  have e1 : wrap64 (0 + 1) = 1 := wrap_in (x := 0 + 1) (by decide) (by decide)
  have e2 : wrap64 (1 + 1) = 2 := wrap_in (x := 1 + 1) (by decide) (by decide)
  obtain ⟨v1, t1, h1⟩ := times_ev (a := 1) (b := a) ⟨by decide, by decide⟩ ha
  have i1 : in64 (1 * a) := by rw [Int.one_mul]; exact ha
  have hv1 := h1 i1
  rw [Int.one_mul] at hv1
  subst hv1
  obtain ⟨v2, t2, h2⟩ := times_ev ha hb
  have r0 : rd [v1, b] 0 = v1 := rfl
  have r1 : rd [v1, b] 1 = b := rfl
  have hlen : (([v1, b] : List Int).length : Int) = 2 := rfl
  rw [hlen, num_fold_num_times.l0, if_pos (by decide), if_pos (by decide), if_pos (by rw [hlen]; decide), r0, t1, Option.bind_some]
  rw [if_pos (decide_eq_true i1), e1, num_fold_num_times.l0, if_pos (by decide), if_pos (by decide), if_pos (by rw [hlen]; decide), r1, t2, Option.bind_some]
  unfold mulP2
  by_cases h : in64 (v1 * b)
  · rw [if_pos (decide_eq_true h), e2, num_fold_num_times.l0, if_neg (by decide), if_pos h, h2 h]
    rfl
  · rw [if_neg (by simpa using h), if_neg h]
    rfl
theorem of_loop (L : List Un) (hL : L.length ≤ 10) (e : ByteArray) : ∀ (d i k : Nat), L.length - i = d → i ≤ L.length → d < k →
    unit_table_of.l0 k e L (L.length : Int) (i : Int) = some (match placeU ((L.drop i).map fun x => by_ x.f0) (by_ e) i with | some u => (u : Int) | none => -1) := by
  intro d
  induction d with
  | zero =>
    intro i k hd hi hk
    obtain ⟨k, rfl⟩ : ∃ q, k = q + 1 := ⟨k - 1, by omega⟩
    rw [List.drop_of_length_le (by omega)]
    simp only [unit_table_of.l0, List.map_nil, placeU]
    rw [if_neg (by omega)]
  | succ d ih =>
    intro i k hd hi hk
    obtain ⟨k, rfl⟩ : ∃ q, k = q + 1 := ⟨k - 1, by omega⟩
    have h : i < L.length := by omega
    rw [List.drop_eq_getElem_cons h]
    simp only [unit_table_of.l0, List.map_cons, placeU]
    rw [if_pos (by omega), if_pos (by omega), if_pos (by omega), rdUn L i h, toList_by, toList_by, w1 i (by omega)]
    by_cases he : by_ L[i].f0 = by_ e
    · rw [if_pos he, if_pos he]
    · rw [if_neg he, if_neg he]
      exact ih (i + 1) k (by omega) (by omega) (by omega)
theorem of_f (L : List Un) (hL : L.length ≤ 10) (e : ByteArray) : unit_table_of.f 20 L e = some (match placeU (L.map fun x => by_ x.f0) (by_ e) 0 with | some u => (u : Int) | none => -1) := by
  unfold unit_table_of.f
  exact of_loop L hL e L.length 0 20 (by omega) (by omega) (by omega)
/-- what the program's part answers -/
def partI (L : List Un) (o : Option (Int × Nat × List UInt8)) : Int × Int × ByteArray × Bool := match o with
  | none => (0, 0, ⟨#[]⟩, false)
  | some (p, u, r) => ((mulP2 p (L.getD u ⟨⟨#[]⟩, 0⟩).f1).1, (u : Int), ⟨r.toArray⟩, (mulP2 p (L.getD u ⟨⟨#[]⟩, 0⟩).f1).2)
theorem take_len {α : Type} (p : α → Bool) : ∀ l : List α, l.take (l.takeWhile p).length = l.takeWhile p ∧ l.drop (l.takeWhile p).length = l.dropWhile p
  | [] => ⟨rfl, rfl⟩
  | x :: l => by
    obtain ⟨h1, h2⟩ := take_len p l
    rw [List.takeWhile_cons, List.dropWhile_cons]
    split
    · exact ⟨by rw [List.length_cons, List.take_succ_cons, h1], by rw [List.length_cons, List.drop_succ_cons, h2]⟩
    · exact ⟨rfl, rfl⟩
theorem all_take {α : Type} {p : α → Bool} {l : List α} (h : l.all p = true) : l.takeWhile p = l ∧ l.dropWhile p = [] := by
  induction l with
  | nil => exact ⟨rfl, rfl⟩
  | cons x l ih =>
    rw [List.all_cons, Bool.and_eq_true] at h
    obtain ⟨h1, h2⟩ := ih h.2
    rw [List.takeWhile_cons, List.dropWhile_cons, h.1, if_pos rfl, if_pos rfl, h1, h2]
    exact ⟨rfl, rfl⟩
theorem part_f (L : List Un) (hL : L.length ≤ 10) (hne : ∀ x ∈ L, by_ x.f0 ≠ []) (hin : ∀ x ∈ L, in64 x.f1) (s : ByteArray) (hs : s.size ≤ 281474976710656) :
    unit_table_part.f L s = some (partI L (unitP (L.map fun x => by_ x.f0) (by_ s))) := by
  have hb := by_length s
  unfold unit_table_part.f
  rw [if_pos hs, idx_oth']
  have noPlace : ∀ (L : List Un) (i : Nat), (∀ x ∈ L, by_ x.f0 ≠ []) → placeU (L.map fun x => by_ x.f0) [] i = none := by
    intro L
    induction L with
    | nil => intro i _; rfl
    | cons x L ih =>
      intro i h
      simp only [List.map_cons, placeU]
      rw [if_neg (h x List.mem_cons_self)]
      exact ih (i + 1) (fun y hy => h y (List.mem_cons_of_mem _ hy))
  by_cases ha : (by_ s).all isD = true
  · rw [if_pos ha, if_pos (by omega)]
    congr 1
    have hu : unitL (by_ s) = [] := by unfold unitL; rw [(all_take ha).2]; rfl
    unfold unitP
    rw [hu, noPlace L 0 hne]
    cases parseN (numL (by_ s)) with
    | mk p b => cases b <;> rfl
  · rw [if_neg ha, if_neg (by omega), Int.toNat_natCast]
    obtain ⟨t1, t2⟩ := take_len isD (by_ s)
    have hnl : ((by_ s).takeWhile isD).length ≤ (by_ s).length := (List.takeWhile_sublist _).length_le
    have htl : by_ (s.extract ((by_ s).takeWhile isD).length s.size) = (by_ s).dropWhile isD := by
      rw [by_extract, List.take_of_length_le (by omega), t2]
    have hn : by_ (s.extract 0 ((by_ s).takeWhile isD).length) = numL (by_ s) := by
      rw [by_extract, List.drop_zero, t1]
      rfl
    have hpz : (s.extract 0 ((by_ s).takeWhile isD).length).size ≤ 281474976710656 := by rw [← by_length, hn]; unfold numL; omega
    have key : ∀ m : Nat, m = ((by_ s).takeWhile isD).length + (unitL (by_ s)).length → partE L s ((by_ s).takeWhile isD).length m = some (partI L (unitP (L.map fun x => by_ x.f0) (by_ s))) := by
      intro m hm
      have hul : (unitL (by_ s)).length ≤ ((by_ s).dropWhile isD).length := (List.takeWhile_sublist _).length_le
      have hdl : ((by_ s).dropWhile isD).length + ((by_ s).takeWhile isD).length = (by_ s).length := by
        rw [← t2, List.length_drop]
        omega
      have hu : by_ (s.extract ((by_ s).takeWhile isD).length m) = unitL (by_ s) := by
        rw [by_extract, hm, List.drop_take, t2, Nat.add_sub_cancel_left]
        exact (take_len notD _).1
      have hr : by_ (s.extract m s.size) = restL (by_ s) := by
        rw [by_extract, List.take_of_length_le (by omega), hm, ← List.drop_drop, t2]
        exact (take_len notD _).2
      unfold partE
      rw [parse_ev _ hpz, hn, of_f L hL, hu]
      simp only [Option.bind_some]
      unfold unitP
      cases hp : parseN (numL (by_ s)) with
      | mk p b =>
        cases b with
        | false => rfl
        | true =>
          rw [if_pos rfl]
          cases hpl : placeU (L.map fun x => by_ x.f0) (unitL (by_ s)) 0 with
          | none => rfl
          | some u =>
            obtain ⟨_, hu2, _⟩ := placeU_lt _ _ _ _ hpl
            rw [List.length_map, Nat.zero_add] at hu2
            simp only [Option.map_some]
            rw [if_neg (by omega), if_pos (by omega), rdUn L u hu2, mul100 (parseN_some hp).1 (hin _ (List.getElem_mem hu2))]
            simp only [Option.bind_some, partI]
            rw [List.getD_eq_getElem?_getD, List.getElem?_eq_getElem hu2, ← hr]
            congr 4
    rw [idx_dig', htl]
    by_cases hd : ((by_ s).dropWhile isD).all notD = true
    · rw [if_pos hd, if_pos (by omega)]
      refine key s.size ?_
      have : unitL (by_ s) = (by_ s).dropWhile isD := (all_take hd).1
      rw [this, ← t2, List.length_drop]
      omega
    · rw [if_neg hd, if_neg (by omega), Int.toNat_natCast]
      exact key _ rfl
end Go.Proofs.YtpijoadbaocnpaaDoor.Pure
