/-
  Durations and sizes as they are read, by the program and by the document's own answer, for the seat YtpijoadbaocnpaaDoor.
-/
import Derived.Test.YtpijoadbaocnpaaDoorX3
import Derived.Test.YtpijoadbaocnpaaDoorX7
import Derived.Test.YtpijoadbaocnpaaDoorX8
import Derived.Test.YtpijoadbaocnpaaDoorX9
import Derived.Test.YtpijoadbaocnpaaDoorI
set_option linter.unusedVariables false
set_option linter.unusedSimpArgs false
namespace Go.Proofs.YtpijoadbaocnpaaDoor.Pure
open Go.RowKit Go.Proofs.YtpijoadbaocnpaaDoor.X Go.Proofs.YtpijoadbaocnpaaDoor.B Go.Proofs.YtpijoadbaocnpaaDoorW.PrintWords Go.Proofs.YtpijoadbaocnpaaDoorW.PrintLast
open Lib (itoa)

def dU : List Un := [⟨⟨#[104]⟩, 3600000000000⟩, ⟨⟨#[109]⟩, 60000000000⟩, ⟨⟨#[115]⟩, 1000000000⟩, ⟨⟨#[109, 115]⟩, 1000000⟩, ⟨⟨#[117, 115]⟩, 1000⟩, ⟨⟨#[110, 115]⟩, 1⟩]
def bU : List Un := [⟨⟨#[71, 66]⟩, 1073741824⟩, ⟨⟨#[77, 66]⟩, 1048576⟩, ⟨⟨#[75, 66]⟩, 1024⟩, ⟨⟨#[66]⟩, 1⟩]
def dN : List (List UInt8) := [[104], [109], [115], [109, 115], [117, 115], [110, 115]]
def bN : List (List UInt8) := [[71, 66], [77, 66], [75, 66], [66]]
def dF : List Int := [3600000000000, 60000000000, 1000000000, 1000000, 1000, 1]
def bF : List Int := [1073741824, 1048576, 1024, 1]
theorem dur_f : unit_durations.f = some dU := rfl
theorem byt_f : unit_bytes.f = some bU := rfl
theorem dU_ok : (∀ x ∈ dU, by_ x.f0 ≠ []) ∧ (∀ x ∈ dU, in64 x.f1) := by
  constructor <;> intro x hx <;> simp only [dU, List.mem_cons, List.not_mem_nil, or_false] at hx <;> rcases hx with rfl | rfl | rfl | rfl | rfl | rfl <;> first | (exact ⟨by decide, by decide⟩) | (intro h; cases h)
theorem bU_ok : (∀ x ∈ bU, by_ x.f0 ≠ []) ∧ (∀ x ∈ bU, in64 x.f1) := by
  constructor <;> intro x hx <;> simp only [bU, List.mem_cons, List.not_mem_nil, or_false] at hx <;> rcases hx with rfl | rfl | rfl | rfl <;> first | (exact ⟨by decide, by decide⟩) | (intro h; cases h)
theorem part_d (s : ByteArray) (hs : s.size ≤ 281474976710656) : unit_table_part.f dU s = some (partI dU (unitP dN (by_ s))) :=
  part_f dU (by decide) dU_ok.1 dU_ok.2 s hs
theorem part_b (s : ByteArray) (hs : s.size ≤ 281474976710656) : unit_table_part.f bU s = some (partI bU (unitP bN (by_ s))) :=
  part_f bU (by decide) bU_ok.1 bU_ok.2 s hs
theorem num_rest (l : List UInt8) : numL l ++ (unitL l ++ restL l) = l := by
  unfold numL unitL restL
  rw [List.takeWhile_append_dropWhile, List.takeWhile_append_dropWhile]
theorem parseN_nil : parseN [] = (0, false) := rfl
theorem unitP_some {L : List (List UInt8)} {l r : List UInt8} {p : Int} {u : Nat} (h : unitP L l = some (p, u, r)) :
    in64 p ∧ itoa p = numL l ∧ u < L.length ∧ r = restL l ∧ (∀ h : u < L.length, L[u] = unitL l) ∧ r.length < l.length := by
  unfold unitP at h
  cases hp : parseN (numL l) with
  | mk q b =>
    rw [hp] at h
    cases b with
    | false => cases h
    | true =>
      simp only [] at h
      cases hu : placeU L (unitL l) 0 with
      | none => rw [hu] at h; cases h
      | some v =>
        rw [hu] at h
        have h1 := Option.some.inj h
        injection h1 with e1 h1
        injection h1 with e2 e3
        subst e1 e2 e3
        obtain ⟨_, h2, h3⟩ := placeU_lt _ _ _ _ hu
        obtain ⟨h4, h5⟩ := parseN_some hp
        refine ⟨h4, h5, by omega, rfl, fun h => h3 (by omega), ?_⟩
        have h6 := congrArg List.length (num_rest l)
        rw [List.length_append, List.length_append] at h6
        have : numL l ≠ [] := fun e => by rw [e] at h5; exact itoa_ne _ h5
        have := List.length_pos_iff.2 this
        omega
/-- the duration that a text is, from a sum and the last unit on -/
def durP : Nat → Int → Int → List UInt8 → Int × Bool
  | 0, _, _, _ => (0, false)
  | d + 1, sum, last, l => if l = [] ∧ 0 ≤ last then (sum, true) else match unitP dN l with
    | none => (0, false)
    | some (p, u, r) => if in64 (p * dF.getD u 0) ∧ last < (u : Int) ∧ in64 (sum + p * dF.getD u 0) then durP d (sum + p * dF.getD u 0) u r else (0, false)
theorem dF_at (u : Nat) : (dU.getD u ⟨⟨#[]⟩, 0⟩).f1 = dF.getD u 0 := by
  match u with
  | 0 => rfl
  | 1 => rfl
  | 2 => rfl
  | 3 => rfl
  | 4 => rfl
  | 5 => rfl
  | u + 6 => rfl
theorem bF_at (u : Nat) : (bU.getD u ⟨⟨#[]⟩, 0⟩).f1 = bF.getD u 0 := by
  match u with
  | 0 => rfl
  | 1 => rfl
  | 2 => rfl
  | 3 => rfl
  | u + 4 => rfl
theorem fold2 (g : Int → Int → Int) (n a b : Int) (ha : in64 (g n a)) : foldP g n [a, b] = if in64 (g (g n a) b) then (g (g n a) b, true) else (0, false) := by
  simp only [foldP]
  rw [if_pos ha]
theorem add2_ {a b : Int} (ha : in64 a) (hb : in64 b) : Ev (fun k => num_Add.f k [a, b]) (if in64 (a + b) then (a + b, true) else (0, false)) := by
  have h := numAdd_ev [a, b] (by intro x hx; simp at hx; rcases hx with rfl | rfl <;> assumption) (by simp)
  rw [fold2 (· + ·) 0 a b (by rw [Int.zero_add]; exact ha), Int.zero_add] at h
  exact h
theorem drop_head {α : Type} {p : α → Bool} : ∀ {l : List α} {x : α} {r : List α}, l.dropWhile p = x :: r → p x = false
  | [], _, _, h => by simp at h
  | y :: l, x, r, h => by
    rw [List.dropWhile_cons] at h
    split at h
    · exact drop_head h
    · rename_i hy
      injection h with h1 h2
      rw [← h1]
      simpa using hy
theorem take_mem {α : Type} {p : α → Bool} : ∀ {l : List α} {x : α}, x ∈ l.takeWhile p → p x = true
  | [], _, h => by simp at h
  | y :: l, x, h => by
    rw [List.takeWhile_cons] at h
    split at h
    · rename_i hy
      rcases List.mem_cons.1 h with rfl | h
      · exact hy
      · exact take_mem h
    · simp at h
theorem mulP2_in (a b : Int) : in64 (mulP2 a b).1 := by
  unfold mulP2
  split
  · rename_i h
    exact h
  · exact ⟨by decide, by decide⟩
theorem dur_loop : ∀ (d : Nat) (s : ByteArray) (sum last : Int), s.size < d → s.size ≤ 281474976710656 → in64 sum → Ev (fun k => unit_Duration.l0 k sum last s dU) (durP d sum last (by_ s)) := by
  intro d
  induction d with
  | zero => intro s sum last h; omega
  | succ d ih =>
    intro s sum last hd hs hin
    have hb := by_length s
    have bad : ∀ (x6 : ByteArray) (x7 x8 : Int), Ev (fun k => unit_Duration.j2 k sum x6 x7 x8 true dU) ((0 : Int), false) := fun x6 x7 x8 => by
      refine Ev.step (fun _ => rfl) ?_
      simp only [unit_Duration.j2]
      exact Ev.pos (by first | trivial | rfl) (Ev.now _)
    have main : ¬ (by_ s = [] ∧ 0 ≤ last) → Ev (fun k => unit_Duration.j1 k sum last s true dU) (durP (d + 1) sum last (by_ s)) := by
      intro hn
      refine Ev.step (fun _ => rfl) ?_
      simp only [unit_Duration.j1]
      refine Ev.pos (by first | trivial | rfl) ?_
      rw [part_d s hs]
      refine Ev.one ?_
      unfold durP
      rw [if_neg hn]
      cases hu : unitP dN (by_ s) with
      | none => exact Ev.neg (by simp [partI]) (bad _ _ _)
      | some pur =>
        obtain ⟨p, u, r⟩ := pur
        obtain ⟨h1, h2, h3, h4, h5, h6⟩ := unitP_some hu
        simp only [partI, dF_at]
        unfold mulP2
        by_cases hm : in64 (p * dF.getD u 0)
        · rw [if_pos hm]
          refine Ev.pos (by first | trivial | rfl) ?_
          by_cases hl : (u : Int) ≤ last
          · rw [decide_eq_true hl, if_neg (fun h => by have := h.2.1; omega)]
            exact bad _ _ _
          · rw [decide_eq_false hl]
            refine Ev.step (fun _ => rfl) ?_
            simp only [unit_Duration.j2]
            refine Ev.neg (by simp) (Ev.bind (add2_ hin hm) ?_)
            by_cases ha : in64 (sum + p * dF.getD u 0)
            · rw [if_pos ha, if_pos ⟨hm, by omega, ha⟩]
              refine Ev.pos rfl ?_
              have hrz : (⟨r.toArray⟩ : ByteArray).size = r.length := by rw [← by_length, by_mk]
              have h7 := ih ⟨r.toArray⟩ (sum + p * dF.getD u 0) u (by omega) (by omega) ha
              rw [by_mk] at h7
              exact h7
            · rw [if_neg ha, if_neg (fun h => ha h.2.2)]
              exact Ev.neg (by simp) (Ev.now _)
        · rw [if_neg hm, if_neg (fun h => hm h.1)]
          exact Ev.neg (by simp) (bad _ _ _)
    refine Ev.step (fun _ => rfl) ?_
    simp only [unit_Duration.l0]
    by_cases h0 : by_ s = []
    · refine Ev.pos (by rw [toList_by]; exact h0) ?_
      by_cases hl : last < 0
      · rw [decide_eq_true hl]
        exact main (fun h => by omega)
      · rw [decide_eq_false hl]
        refine Ev.step (fun _ => rfl) ?_
        simp only [unit_Duration.j1]
        refine Ev.neg (by simp) (Ev.ret ?_)
        unfold durP
        rw [if_pos ⟨h0, by omega⟩]
    · exact Ev.neg (by rw [toList_by]; exact h0) (main (fun h => h0 h.1))
/-- the duration that a text is -/
def durL (l : List UInt8) : Int × Bool := durP (l.length + 1) 0 (-1) l
theorem dur_ev (s : ByteArray) (hs : s.size ≤ 281474976710656) : Ev (fun k => unit_Duration.f k s) (durL (by_ s)) := by
  unfold unit_Duration.f
  rw [dur_f]
  refine Ev.one ?_
  unfold durL
  rw [by_length]
  exact dur_loop (s.size + 1) s 0 (-1) (by omega) hs ⟨by decide, by decide⟩
def bytL (l : List UInt8) : Int × Bool := match unitP bN l with
  | none => (0, false)
  | some (p, u, r) => if r = [] then mulP2 p (bF.getD u 0) else (0, false)
theorem byt_ev (s : ByteArray) (hs : s.size ≤ 281474976710656) : unit_Bytes.f s = some (bytL (by_ s)) := by
  unfold unit_Bytes.f bytL
  rw [byt_f, Option.bind_some, part_b s hs, Option.bind_some]
  cases unitP bN (by_ s) with
  | none => rfl
  | some pur =>
    obtain ⟨p, u, r⟩ := pur
    simp only [partI, bF_at, toList_by, by_mk]
    unfold mulP2
    by_cases hm : in64 (p * bF.getD u 0)
    · rw [if_pos hm]
      by_cases hr : r = []
      · simp [hr]
      · simp [hr]
    · rw [if_neg hm]
      simp

/-! ### the document's part -/
def namesB (b : Bool) : List (List UInt8) := if b = true then bN else dN
def namesA (b : Bool) : List ByteArray := if b = true then [⟨#[71, 66]⟩, ⟨#[77, 66]⟩, ⟨#[75, 66]⟩, ⟨#[66]⟩] else [⟨#[104]⟩, ⟨#[109]⟩, ⟨#[115]⟩, ⟨#[109, 115]⟩, ⟨#[117, 115]⟩, ⟨#[110, 115]⟩]
theorem names_f (b : Bool) : archivistref03_names.f b = some (namesA b) ∧ (namesA b).map by_ = namesB b ∧ (namesA b).length ≤ 10 := by
  cases b <;> exact ⟨rfl, rfl, by decide⟩
def refPartI (n : Nat) (o : Option (Int × Nat × List UInt8)) : Int × Int × Int × Bool := match o with
  | none => (0, 0, 0, false)
  | some (p, u, r) => (p, (u : Int), ((n - r.length : Nat) : Int), true)
set_option linter.unusedSectionVars false
section
variable (s : ByteArray) (hs : s.size ≤ 281474976710656) (b : Bool)
include hs
theorem ref_look (n m : Nat) (hnm : n ≤ m) (hm : m ≤ s.size) (p : Int) : ∀ d i, (namesA b).length - i = d → i ≤ (namesA b).length →
    Ev (fun k => archivistref03_part.l2 k s (n : Int) (m : Int) p (namesA b) (i : Int)) (match placeU (((namesA b).drop i).map by_) (by_ (s.extract n m)) i with | some u => (p, (u : Int), (m : Int), true) | none => (0, 0, 0, false)) := by
  intro d
  have hl := (names_f b).2.2
  induction d with
  | zero =>
    intro i hd hi
    rw [List.drop_of_length_le (by omega)]
    refine Ev.step (fun _ => rfl) ?_
    simp only [archivistref03_part.l2]
    exact Ev.neg (by omega) (Ev.now _)
  | succ d ih =>
    intro i hd hi
    have h : i < (namesA b).length := by omega
    rw [List.drop_eq_getElem_cons h]
    refine Ev.step (fun _ => rfl) ?_
    simp only [archivistref03_part.l2, List.map_cons, placeU]
    refine Ev.pos (by omega) (Ev.pos (by omega) (Ev.pos (by omega) (Ev.pos (by omega) (Ev.pos (by omega) ?_))))
    rw [rdS _ i h, toList_by, toList_by, Int.toNat_natCast, Int.toNat_natCast, w1 i (by omega)]
    by_cases he : by_ (namesA b)[i] = by_ (s.extract n m)
    · rw [if_pos he]
      exact Ev.pos he (Ev.now _)
    · rw [if_neg he]
      exact Ev.neg he (ih (i + 1) (by omega) (by omega))
theorem ref_j3 (n m : Nat) (hn : n = (numL (by_ s)).length) (hm : m = n + (unitL (by_ s)).length) : Ev (fun k => archivistref03_part.j3 k s b (n : Int) (m : Int)) (refPartI s.size (unitP (namesB b) (by_ s))) := by
  have hb := by_length s
  have hz := congrArg List.length (num_rest (by_ s))
  rw [List.length_append, List.length_append] at hz
  have e1 : by_ (s.extract 0 n) = numL (by_ s) := by
    rw [by_extract, List.drop_zero, hn]
    exact (take_len isD _).1
  have e2 : by_ (s.extract n m) = unitL (by_ s) := by
    rw [by_extract, hm, List.drop_take, Nat.add_sub_cancel_left, hn]
    unfold numL
    rw [(take_len isD _).2]
    exact (take_len notD _).1
  refine Ev.step (fun _ => rfl) ?_
  simp only [archivistref03_part.j3]
  refine Ev.pos (by omega) (Ev.pos (by omega) ?_)
  rw [Int.toNat_natCast]
  have hp := refParse_ev (s.extract 0 n)
  rw [e1] at hp
  refine Ev.bind hp ?_
  unfold unitP
  cases hpn : parseN (numL (by_ s)) with
  | mk p ok =>
    cases ok with
    | false => exact Ev.neg (by simp) (Ev.now _)
    | true =>
      refine Ev.pos rfl ?_
      rw [(names_f b).1]
      refine Ev.one ?_
      have h := ref_look s hs b n m (by omega) (by omega) p (namesA b).length 0 rfl (by omega)
      rw [List.drop_zero, (names_f b).2.1, e2] at h
      cases hu : placeU (namesB b) (unitL (by_ s)) 0 with
      | none => rw [hu] at h; exact h
      | some u =>
        rw [hu] at h
        simp only [Option.map_some, refPartI]
        have : s.size - (restL (by_ s)).length = m := by omega
        rw [this]
        exact h
theorem ref_l1 (n : Nat) (hn : n = (numL (by_ s)).length) : ∀ (d j : Nat), (unitL (by_ s)).length - j = d → j ≤ (unitL (by_ s)).length → Ev (fun k => archivistref03_part.l1 k s b (n : Int) ((n + j : Nat) : Int)) (refPartI s.size (unitP (namesB b) (by_ s))) := by
  have hb := by_length s
  have hr := num_rest (by_ s)
  have hz := congrArg List.length hr
  rw [List.length_append, List.length_append] at hz
  intro d
  induction d with
  | zero =>
    intro j hd hj
    have h3 := ref_j3 s hs b n (n + j) hn (by omega)
    refine Ev.step (fun _ => rfl) ?_
    simp only [archivistref03_part.l1]
    by_cases hlt : n + j < s.size
    · refine Ev.pos (by omega) (Ev.pos (by omega) ?_)
      -- the byte there is a digit
      have hl : n + j < (by_ s).length := by omega
      rw [bt_by s (n + j) hl]
      have hdig : notD (by_ s)[n + j] = false := by
        have hrest : restL (by_ s) = (by_ s).drop (n + j) := by
          have e : (by_ s).drop (n + j) = (numL (by_ s) ++ (unitL (by_ s) ++ restL (by_ s))).drop (n + j) := by rw [hr]
          rw [e, ← List.append_assoc, List.drop_left' (by rw [List.length_append]; omega)]
        have h4 : restL (by_ s) = (by_ s)[n + j] :: (by_ s).drop (n + j + 1) := by rw [hrest, List.drop_eq_getElem_cons hl]
        unfold restL at h4
        exact drop_head h4
      have hd2 : 48 ≤ ((by_ s)[n + j]).toNat ∧ ((by_ s)[n + j]).toNat ≤ 57 := by
        unfold notD isD at hdig
        simpa using hdig
      exact Ev.neg (by omega) (Ev.neg (by omega) h3)
    · exact Ev.neg (by omega) h3
  | succ d ih =>
    intro j hd hj
    have hlt : n + j < s.size := by omega
    have hl : n + j < (by_ s).length := by omega
    have hnot : notD (by_ s)[n + j] = true := by
      have hj2 : j < (unitL (by_ s)).length := by omega
      have e : (by_ s)[n + j] = (unitL (by_ s))[j] := by
        have e1 : (by_ s)[n + j]? = (numL (by_ s) ++ (unitL (by_ s) ++ restL (by_ s)))[n + j]? := by rw [hr]
        rw [List.getElem?_append_right (by omega), List.getElem?_append_left (by omega), List.getElem?_eq_getElem hl, List.getElem?_eq_getElem (by omega)] at e1
        have := Option.some.inj e1
        rw [this]
        congr 1
        omega
      rw [e]
      exact take_mem (p := notD) (List.getElem_mem hj2)
    refine Ev.step (fun _ => rfl) ?_
    simp only [archivistref03_part.l1]
    refine Ev.pos (by omega) (Ev.pos (by omega) ?_)
    rw [bt_by s (n + j) hl, w1 (n + j) (by omega)]
    have hih := ih (j + 1) (by omega) (by omega)
    by_cases h1 : (((by_ s)[n + j]).toNat : Int) < 48
    · exact Ev.pos h1 hih
    · by_cases h2 : (((by_ s)[n + j]).toNat : Int) > 57
      · exact Ev.neg h1 (Ev.pos h2 hih)
      · exfalso
        unfold notD isD at hnot
        rw [decide_eq_true (show 48 ≤ ((by_ s)[n + j]).toNat by omega), decide_eq_true (show ((by_ s)[n + j]).toNat ≤ 57 by omega)] at hnot
        cases hnot
theorem ref_l0 : ∀ (d j : Nat), (numL (by_ s)).length - j = d → j ≤ (numL (by_ s)).length → Ev (fun k => archivistref03_part.l0 k s b (j : Int)) (refPartI s.size (unitP (namesB b) (by_ s))) := by
  have hb := by_length s
  have hr := num_rest (by_ s)
  have hz := congrArg List.length hr
  rw [List.length_append, List.length_append] at hz
  intro d
  induction d with
  | zero =>
    intro j hd hj
    have h3 : Ev (fun k => archivistref03_part.j1 k s b (j : Int)) (refPartI s.size (unitP (namesB b) (by_ s))) := by
      refine Ev.step (fun _ => rfl) ?_
      simp only [archivistref03_part.j1]
      exact ref_l1 s hs b j (by omega) (unitL (by_ s)).length 0 rfl (by omega)
    refine Ev.step (fun _ => rfl) ?_
    simp only [archivistref03_part.l0]
    by_cases hlt : j < s.size
    · refine Ev.pos (by omega) (Ev.pos (by omega) ?_)
      have hl : j < (by_ s).length := by omega
      rw [bt_by s j hl]
      have hdig : isD (by_ s)[j] = false := by
        have hj3 : j = ((by_ s).takeWhile isD).length := by unfold numL at hd hj; omega
        have hrest : (by_ s).dropWhile isD = (by_ s).drop j := by rw [hj3]; exact (take_len isD _).2.symm
        have h4 : (by_ s).dropWhile isD = (by_ s)[j] :: (by_ s).drop (j + 1) := by rw [hrest, List.drop_eq_getElem_cons hl]
        exact drop_head h4
      by_cases h1 : (((by_ s)[j]).toNat : Int) ≥ 48
      · refine Ev.pos h1 ?_
        by_cases h2 : (((by_ s)[j]).toNat : Int) ≤ 57
        · exfalso
          unfold isD at hdig
          rw [decide_eq_true (show 48 ≤ ((by_ s)[j]).toNat by omega), decide_eq_true (show ((by_ s)[j]).toNat ≤ 57 by omega)] at hdig
          cases hdig
        · exact Ev.neg h2 h3
      · exact Ev.neg h1 h3
    · exact Ev.neg (by omega) h3
  | succ d ih =>
    intro j hd hj
    have hlt : j < s.size := by omega
    have hl : j < (by_ s).length := by omega
    have hdig : isD (by_ s)[j] = true := by
      have hj2 : j < (numL (by_ s)).length := by omega
      have e : (by_ s)[j] = (numL (by_ s))[j] := by
        have e1 : (by_ s)[j]? = (numL (by_ s) ++ (unitL (by_ s) ++ restL (by_ s)))[j]? := by rw [hr]
        rw [List.getElem?_append_left (by omega), List.getElem?_eq_getElem hl, List.getElem?_eq_getElem (by omega)] at e1
        exact Option.some.inj e1
      rw [e]
      exact take_mem (p := isD) (List.getElem_mem hj2)
    have hd2 : 48 ≤ ((by_ s)[j]).toNat ∧ ((by_ s)[j]).toNat ≤ 57 := by
      unfold isD at hdig
      simpa using hdig
    refine Ev.step (fun _ => rfl) ?_
    simp only [archivistref03_part.l0]
    refine Ev.pos (by omega) (Ev.pos (by omega) ?_)
    rw [bt_by s j hl, w1 j (by omega)]
    exact Ev.pos (by omega) (Ev.pos (by omega) (ih (j + 1) (by omega) (by omega)))
theorem ref_part : Ev (fun k => archivistref03_part.f k s b) (refPartI s.size (unitP (namesB b) (by_ s))) := by
  unfold archivistref03_part.f
  exact ref_l0 s hs b (numL (by_ s)).length 0 rfl (by omega)
end
def factB (b : Bool) : List Int := if b = true then bF else dF
theorem fact_f (b : Bool) : archivistref03_factors.f b = some (factB b) := by cases b <;> rfl
theorem fact_in (b : Bool) (u : Nat) : in64 ((factB b).getD u 0) := by
  cases b
  · match u with
    | 0 => exact ⟨by decide, by decide⟩
    | 1 => exact ⟨by decide, by decide⟩
    | 2 => exact ⟨by decide, by decide⟩
    | 3 => exact ⟨by decide, by decide⟩
    | 4 => exact ⟨by decide, by decide⟩
    | 5 => exact ⟨by decide, by decide⟩
    | u + 6 => exact (show in64 0 from ⟨by decide, by decide⟩)
  · match u with
    | 0 => exact ⟨by decide, by decide⟩
    | 1 => exact ⟨by decide, by decide⟩
    | 2 => exact ⟨by decide, by decide⟩
    | 3 => exact ⟨by decide, by decide⟩
    | u + 4 => exact (show in64 0 from ⟨by decide, by decide⟩)
theorem refDur_loop : ∀ (d : Nat) (s : ByteArray) (sum last : Int), s.size < d → s.size ≤ 281474976710656 → in64 sum → (by_ s = [] → 0 ≤ last) → Ev (fun k => archivistref03_Duration.l0 k s sum last) (durP d sum last (by_ s)) := by
  intro d
  induction d with
  | zero => intro s sum last h; omega
  | succ d ih =>
    intro s sum last hd hs hin hl
    have hb := by_length s
    refine Ev.step (fun _ => rfl) ?_
    simp only [archivistref03_Duration.l0]
    unfold durP
    by_cases h0 : by_ s = []
    · rw [if_pos ⟨h0, hl h0⟩]
      exact Ev.pos (by rw [toList_by]; exact h0) (Ev.now _)
    rw [if_neg (fun h => h0 h.1)]
    refine Ev.neg (by rw [toList_by]; exact h0) (Ev.bind (ref_part s hs false) ?_)
    have bad : ∀ (x6 x7 x8 : Int), Ev (fun k => archivistref03_Duration.j1 k s sum x6 x7 x8 true) ((0 : Int), false) := fun x6 x7 x8 => by
      refine Ev.step (fun _ => rfl) ?_
      simp only [archivistref03_Duration.j1]
      exact Ev.pos (by first | trivial | rfl) (Ev.now _)
    show Ev _ (match unitP dN (by_ s) with | none => _ | some (p, u, r) => _)
    have en : namesB false = dN := rfl
    rw [en]
    cases hu : unitP dN (by_ s) with
    | none => exact Ev.neg (by simp [refPartI]) (bad _ _ _)
    | some pur =>
      obtain ⟨p, u, r⟩ := pur
      obtain ⟨h1, h2, h3, h4, h5, h6⟩ := unitP_some hu
      have h3' : u < 6 := h3
      simp only [refPartI]
      refine Ev.pos (by first | trivial | rfl) ?_
      by_cases hle : (u : Int) ≤ last
      · simp only [hle, decide_true]
        rw [if_neg (fun h => by have := h.2.1; omega)]
        exact bad _ _ _
      · simp only [hle, decide_false]
        refine Ev.step (fun _ => rfl) ?_
        simp only [archivistref03_Duration.j1]
        rw [fact_f]
        refine Ev.neg (by simp) (Ev.one (Ev.pos (by omega) (Ev.pos (by show (u : Int) < 6; omega) ?_)))
        have hrd : rd (factB false) (u : Int) = dF.getD u 0 := rfl
        rw [hrd]
        refine Ev.bind (refTimes h1 (fact_in false u)) ?_
        show Ev (fun k => (archivistref02_Sum.f sum (mulP2 p (dF.getD u 0)).1).bind _) _
        rw [refSum hin (mulP2_in _ _)]
        refine Ev.one ?_
        unfold mulP2
        by_cases hm : in64 (p * dF.getD u 0)
        · rw [if_pos hm]
          refine Ev.pos rfl ?_
          by_cases ha : in64 (sum + p * dF.getD u 0)
          · rw [if_pos ha, if_pos ⟨hm, by omega, ha⟩]
            refine Ev.pos rfl (Ev.pos (by omega) (Ev.pos (by omega) ?_))
            rw [Int.toNat_natCast]
            have hex : by_ (s.extract (s.size - r.length) s.size) = r := by
              rw [by_extract, List.take_of_length_le (by omega)]
              have e := num_rest (by_ s)
              rw [← h4] at e
              have hz := congrArg List.length e
              rw [List.length_append, List.length_append] at hz
              rw [← e, ← List.append_assoc, List.drop_left' (by rw [List.length_append]; omega)]
            have hrz : (s.extract (s.size - r.length) s.size).size = r.length := by rw [← by_length, hex]
            have h7 := ih (s.extract (s.size - r.length) s.size) (sum + p * dF.getD u 0) u (by omega) (by omega) ha (fun _ => by omega)
            rw [hex] at h7
            exact h7
          · rw [if_neg ha, if_neg (fun h => ha h.2.2)]
            exact Ev.neg (by simp) (Ev.now _)
        · have hf : ¬ (in64 (p * dF.getD u 0) ∧ last < (u : Int) ∧ in64 (sum + p * dF.getD u 0)) := fun h => hm h.1
          rw [if_neg hf, if_neg hm]
          exact Ev.neg (by simp) (Ev.now _)
theorem refDur_ev (s : ByteArray) (hs : s.size ≤ 281474976710656) : Ev (fun k => archivistref03_Duration.f k s) (durL (by_ s)) := by
  have hb := by_length s
  unfold archivistref03_Duration.f durL
  by_cases h0 : by_ s = []
  · refine Ev.pos (by rw [toList_by]; exact h0) (Ev.ret ?_)
    rw [h0]
    rfl
  · refine Ev.neg (by rw [toList_by]; exact h0) ?_
    rw [hb]
    exact refDur_loop (s.size + 1) s 0 (-1) (by omega) hs ⟨by decide, by decide⟩ (fun h => absurd h h0)
theorem refByt_ev (s : ByteArray) (hs : s.size ≤ 281474976710656) : Ev (fun k => archivistref03_Bytes.f k s) (bytL (by_ s)) := by
  have hb := by_length s
  unfold archivistref03_Bytes.f bytL
  refine Ev.bind (ref_part s hs true) ?_
  have en : namesB true = bN := rfl
  rw [en]
  have bad : ∀ (x4 x5 : Int), Ev (fun k => archivistref03_Bytes.j0 k x4 x5 true) ((0 : Int), false) := fun x4 x5 => by
    refine Ev.step (fun _ => rfl) ?_
    simp only [archivistref03_Bytes.j0]
    exact Ev.pos (by first | trivial | rfl) (Ev.now _)
  cases hu : unitP bN (by_ s) with
  | none => exact Ev.neg (by simp [refPartI]) (bad _ _)
  | some pur =>
    obtain ⟨p, u, r⟩ := pur
    obtain ⟨h1, h2, h3, h4, h5, h6⟩ := unitP_some hu
    have h3' : u < 4 := h3
    simp only [refPartI]
    refine Ev.pos (by first | trivial | rfl) ?_
    by_cases hr : r = []
    · rw [if_pos hr]
      have e : (((s.size - r.length : Nat) : Int) != (s.size : Int)) = false := by rw [hr]; simp
      rw [e]
      refine Ev.step (fun _ => rfl) ?_
      simp only [archivistref03_Bytes.j0]
      rw [fact_f]
      refine Ev.neg (by simp) (Ev.one (Ev.pos (by omega) (Ev.pos (by show (u : Int) < 4; omega) ?_)))
      have hrd : rd (factB true) (u : Int) = bF.getD u 0 := rfl
      rw [hrd]
      exact Ev.bind (refTimes h1 (fact_in true u)) (Ev.now _)
    · rw [if_neg hr]
      have hpos := List.length_pos_iff.2 hr
      have e : (((s.size - r.length : Nat) : Int) != (s.size : Int)) = true := by
        rw [bne_iff_ne]
        omega
      rw [e]
      exact bad _ _
end Go.Proofs.YtpijoadbaocnpaaDoor.Pure
