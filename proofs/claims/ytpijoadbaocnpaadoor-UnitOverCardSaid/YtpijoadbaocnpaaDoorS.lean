/-
  Durations and sizes as they are told, by the program and by the document's own answer, and that they are read back, for the seat YtpijoadbaocnpaaDoor.
-/
import Derived.Test.YtpijoadbaocnpaaDoorX10
import Derived.Test.YtpijoadbaocnpaaDoorX11
import Derived.Test.YtpijoadbaocnpaaDoorX4
import Derived.Test.YtpijoadbaocnpaaDoorX5
import Derived.Test.YtpijoadbaocnpaaDoorD
set_option linter.unusedVariables false
set_option linter.unusedSimpArgs false
namespace Go.Proofs.YtpijoadbaocnpaaDoor.Pure
open Go.RowKit Go.Proofs.YtpijoadbaocnpaaDoor.X Go.Proofs.YtpijoadbaocnpaaDoor.B Go.Proofs.YtpijoadbaocnpaaDoorW.PrintWords Go.Proofs.YtpijoadbaocnpaaDoorW.PrintLast
open Lib (itoa decDigits)

set_option maxRecDepth 100000 in
theorem unitExamples_ev : Ev (fun k => archivistlaw03_examples.f k) true :=
  Ev.of (k := 60) (fun k => archivistlaw03_examples.mono k) (by kernel_rfl)
def gU (x : Un) : List UInt8 × Int := (by_ x.f0, x.f1)
/-- a number in units, the greatest first -/
def spanT : Int → List (List UInt8 × Int) → List UInt8
  | _, [] => []
  | n, (nm, f) :: us => if n ≥ f then itoa (n / f) ++ (nm ++ spanT (n % f) us) else spanT n us
def sizeT : Int → List (List UInt8 × Int) → List UInt8 × Bool
  | _, [] => ([], false)
  | n, (nm, f) :: us => if n % f = 0 then (itoa (n / f) ++ nm, true) else sizeT n us
def dL : List (List UInt8 × Int) := dU.map gU
def bL : List (List UInt8 × Int) := bU.map gU
def spanR (n : Int) : ByteArray × Bool := if n < 0 then (⟨#[]⟩, false) else if n = 0 then (⟨#[48, 115]⟩, true) else (⟨(spanT n dL).toArray⟩, true)
def sizeR (n : Int) : ByteArray × Bool := if n < 0 then (⟨#[]⟩, false) else if n = 0 then (⟨#[48, 66]⟩, true) else (⟨(sizeT n bL).1.toArray⟩, (sizeT n bL).2)
def uZ : Un := ⟨⟨#[]⟩, 0⟩
theorem dU_atD (i : Nat) (h : i < dU.length) : 0 < (dU.getD i uZ).f1 ∧ in64 (dU.getD i uZ).f1 ∧ (dU.getD i uZ).f0.size ≤ 2 ∧ rd dF (i : Int) = (dU.getD i uZ).f1 ∧ rdOf ByteArray.empty (namesA false) (i : Int) = (dU.getD i uZ).f0 := by
  match i, h with
  | 0, _ => exact ⟨by decide, ⟨by decide, by decide⟩, by decide, rfl, rfl⟩
  | 1, _ => exact ⟨by decide, ⟨by decide, by decide⟩, by decide, rfl, rfl⟩
  | 2, _ => exact ⟨by decide, ⟨by decide, by decide⟩, by decide, rfl, rfl⟩
  | 3, _ => exact ⟨by decide, ⟨by decide, by decide⟩, by decide, rfl, rfl⟩
  | 4, _ => exact ⟨by decide, ⟨by decide, by decide⟩, by decide, rfl, rfl⟩
  | 5, _ => exact ⟨by decide, ⟨by decide, by decide⟩, by decide, rfl, rfl⟩
  | i + 6, h => exact absurd h (by show ¬ i + 6 < 6; omega)
theorem dU_at (i : Nat) (h : i < dU.length) : 0 < dU[i].f1 ∧ in64 dU[i].f1 ∧ dU[i].f0.size ≤ 2 ∧ rd dF (i : Int) = dU[i].f1 ∧ rdOf ByteArray.empty (namesA false) (i : Int) = dU[i].f0 := by
  have e : dU[i] = dU.getD i uZ := by rw [List.getD_eq_getElem?_getD, List.getElem?_eq_getElem h]; rfl
  rw [e]
  exact dU_atD i h
theorem bU_atD (i : Nat) (h : i < bU.length) : 0 < (bU.getD i uZ).f1 ∧ in64 (bU.getD i uZ).f1 ∧ (bU.getD i uZ).f0.size ≤ 2 ∧ rd bF (i : Int) = (bU.getD i uZ).f1 ∧ rdOf ByteArray.empty (namesA true) (i : Int) = (bU.getD i uZ).f0 := by
  match i, h with
  | 0, _ => exact ⟨by decide, ⟨by decide, by decide⟩, by decide, rfl, rfl⟩
  | 1, _ => exact ⟨by decide, ⟨by decide, by decide⟩, by decide, rfl, rfl⟩
  | 2, _ => exact ⟨by decide, ⟨by decide, by decide⟩, by decide, rfl, rfl⟩
  | 3, _ => exact ⟨by decide, ⟨by decide, by decide⟩, by decide, rfl, rfl⟩
  | i + 4, h => exact absurd h (by show ¬ i + 4 < 4; omega)
theorem bU_at (i : Nat) (h : i < bU.length) : 0 < bU[i].f1 ∧ in64 bU[i].f1 ∧ bU[i].f0.size ≤ 2 ∧ rd bF (i : Int) = bU[i].f1 ∧ rdOf ByteArray.empty (namesA true) (i : Int) = bU[i].f0 := by
  have e : bU[i] = bU.getD i uZ := by rw [List.getD_eq_getElem?_getD, List.getElem?_eq_getElem h]; rfl
  rw [e]
  exact bU_atD i h
theorem quo_in {n f : Int} (h0 : 0 ≤ n) (hn : in64 n) (hf : 0 < f) : Int.tdiv n f = n / f ∧ Int.tmod n f = n % f ∧ 0 ≤ n / f ∧ n / f ≤ n ∧ wrap64 (Int.tdiv n f) = n / f ∧ in64 (n / f) ∧ 0 ≤ n % f ∧ n % f < f ∧ n % f ≤ n ∧ in64 (n % f) ∧ f * (n / f) + n % f = n := by
  have h1 := Int.tdiv_eq_ediv_of_nonneg (b := f) h0
  have h2 := Int.tmod_eq_emod_of_nonneg (b := f) h0
  have h3 := Int.ediv_nonneg h0 (by omega : 0 ≤ f)
  have h4 := Int.ediv_le_self f h0
  have h5 := Int.emod_nonneg n (by omega : f ≠ 0)
  have h6 := Int.emod_lt_of_pos n hf
  have h7 := Int.mul_ediv_add_emod n f
  have h8 : 0 ≤ f * (n / f) := Int.mul_nonneg (by omega) h3
  unfold in64 at *
  refine ⟨h1, h2, h3, h4, ?_, ⟨by omega, by omega⟩, h5, h6, by omega, ⟨by omega, by omega⟩, h7⟩
  rw [h1, wrap_in (by omega) (by omega)]
theorem text_size (v : Int) (h : in64 v) : (⟨(itoa v).toArray⟩ : ByteArray).size ≤ 20 := by rw [← by_length, by_mk]; exact itoa_len h
theorem span_loop : ∀ d i n (acc : ByteArray), dU.length - i = d → i ≤ dU.length → 0 ≤ n → in64 n → acc.size + 30 * d ≤ 1000 →
    Ev (fun k => unit_Span.l0 k n acc dU (dU.length : Int) (i : Int)) (⟨(by_ acc ++ spanT n ((dU.drop i).map gU)).toArray⟩, true) := by
  intro d
  induction d with
  | zero =>
    intro i n acc hd hi h0 hn hz
    rw [List.drop_of_length_le (by omega)]
    refine Ev.step (fun _ => rfl) ?_
    simp only [unit_Span.l0]
    refine Ev.neg (by omega) (Ev.ret ?_)
    simp only [List.map_nil, spanT, List.append_nil]
    rw [show (⟨(by_ acc).toArray⟩ : ByteArray) = acc from by_ext (by_mk _)]
  | succ d ih =>
    intro i n acc hd hi h0 hn hz
    have h : i < dU.length := by omega
    obtain ⟨a1, a2, a3, _, _⟩ := dU_at i h
    obtain ⟨q1, q2, q3, q4, q5, q6, q7, q8, q9, q10, _⟩ := quo_in h0 hn a1
    rw [List.drop_eq_getElem_cons h]
    simp only [List.map_cons, gU, spanT]
    refine Ev.step (fun _ => rfl) ?_
    simp only [unit_Span.l0]
    have h6 : dU.length = 6 := rfl
    refine Ev.pos (by omega) (Ev.pos (by omega) (Ev.pos (by omega) ?_))
    rw [rdUn dU i h, w1 i (by omega)]
    by_cases hge : n ≥ dU[i].f1
    · rw [if_pos hge]
      refine Ev.pos hge (Ev.neg (by omega) ?_)
      rw [q5, q2, text_ev q6]
      have ht := text_size _ q6
      refine Ev.one (Ev.pos (by omega) (Ev.pos (by rw [ByteArray.size_append]; omega) ?_))
      have h7 := ih (i + 1) (n % dU[i].f1) (acc ++ (⟨(itoa (n / dU[i].f1)).toArray⟩ ++ dU[i].f0)) (by omega) (by omega) q7 q10 (by rw [ByteArray.size_append, ByteArray.size_append]; omega)
      rw [by_append, by_append, by_mk] at h7
      simp only [List.append_assoc] at h7
      exact h7
    · rw [if_neg hge]
      exact Ev.neg hge (ih (i + 1) n acc (by omega) (by omega) h0 hn (by omega))
theorem refSpan_loop : ∀ d i n (acc : ByteArray), dU.length - i = d → i ≤ dU.length → 0 ≤ n → in64 n → acc.size + 30 * d ≤ 1000 →
    Ev (fun k => archivistref03_Span.l0 k n acc dF (namesA false) (i : Int)) (⟨(by_ acc ++ spanT n ((dU.drop i).map gU)).toArray⟩, true) := by
  intro d
  have h6 : dU.length = 6 := rfl
  have hF : (dF.length : Int) = 6 := rfl
  have hN : ((namesA false).length : Int) = 6 := rfl
  induction d with
  | zero =>
    intro i n acc hd hi h0 hn hz
    rw [List.drop_of_length_le (by omega)]
    refine Ev.step (fun _ => rfl) ?_
    simp only [archivistref03_Span.l0]
    refine Ev.neg (by omega) (Ev.ret ?_)
    simp only [List.map_nil, spanT, List.append_nil]
    rw [show (⟨(by_ acc).toArray⟩ : ByteArray) = acc from by_ext (by_mk _)]
  | succ d ih =>
    intro i n acc hd hi h0 hn hz
    have h : i < dU.length := by omega
    obtain ⟨a1, a2, a3, a4, a5⟩ := dU_at i h
    obtain ⟨q1, q2, q3, q4, q5, q6, q7, q8, q9, q10, _⟩ := quo_in h0 hn a1
    rw [List.drop_eq_getElem_cons h]
    simp only [List.map_cons, gU, spanT]
    refine Ev.step (fun _ => rfl) ?_
    simp only [archivistref03_Span.l0]
    refine Ev.pos (by omega) (Ev.pos (by omega) ?_)
    rw [a4, a5, w1 i (by omega)]
    by_cases hge : n ≥ dU[i].f1
    · rw [if_pos hge]
      refine Ev.pos hge (Ev.neg (by omega) ?_)
      rw [q5, q2]
      have ht := text_size _ q6
      refine Ev.bind (refText_ev q6) (Ev.pos (by omega) (Ev.pos (by omega) (Ev.pos (by rw [ByteArray.size_append]; omega) ?_)))
      have h7 := ih (i + 1) (n % dU[i].f1) ((acc ++ ⟨(itoa (n / dU[i].f1)).toArray⟩) ++ dU[i].f0) (by omega) (by omega) q7 q10 (by rw [ByteArray.size_append, ByteArray.size_append]; omega)
      rw [by_append, by_append, by_mk] at h7
      simp only [List.append_assoc] at h7
      exact h7
    · rw [if_neg hge]
      exact Ev.neg hge (ih (i + 1) n acc (by omega) (by omega) h0 hn (by omega))
theorem span_ev {n : Int} (hn : in64 n) : Ev (fun k => unit_Span.f k n) (spanR n) := by
  unfold unit_Span.f spanR
  by_cases h1 : n < 0
  · rw [if_pos h1]
    exact Ev.pos h1 (Ev.now _)
  rw [if_neg h1]
  refine Ev.neg h1 ?_
  by_cases h2 : n = 0
  · rw [if_pos h2]
    exact Ev.pos h2 (Ev.now _)
  rw [if_neg h2, dur_f]
  exact Ev.neg h2 (Ev.one (span_loop 6 0 n ⟨#[]⟩ rfl (by omega) (by omega) hn (by decide)))
theorem refSpan_ev {n : Int} (hn : in64 n) : Ev (fun k => archivistref03_Span.f k n) (spanR n) := by
  unfold archivistref03_Span.f spanR
  by_cases h1 : n < 0
  · rw [if_pos h1]
    exact Ev.pos h1 (Ev.now _)
  rw [if_neg h1]
  refine Ev.neg h1 ?_
  by_cases h2 : n = 0
  · rw [if_pos h2]
    exact Ev.pos h2 (Ev.now _)
  rw [if_neg h2, fact_f, (names_f false).1]
  exact Ev.neg h2 (Ev.one (Ev.one (refSpan_loop 6 0 n ⟨#[]⟩ rfl (by omega) (by omega) hn (by decide))))
theorem size_loop : ∀ d i n, bU.length - i = d → i ≤ bU.length → 0 ≤ n → in64 n →
    Ev (fun k => unit_Size.l0 k n bU (bU.length : Int) (i : Int)) (⟨(sizeT n ((bU.drop i).map gU)).1.toArray⟩, (sizeT n ((bU.drop i).map gU)).2) := by
  intro d
  have h6 : bU.length = 4 := rfl
  induction d with
  | zero =>
    intro i n hd hi h0 hn
    rw [List.drop_of_length_le (by omega)]
    refine Ev.step (fun _ => rfl) ?_
    simp only [unit_Size.l0]
    exact Ev.neg (by omega) (Ev.now _)
  | succ d ih =>
    intro i n hd hi h0 hn
    have h : i < bU.length := by omega
    obtain ⟨a1, a2, a3, _, _⟩ := bU_at i h
    obtain ⟨q1, q2, q3, q4, q5, q6, q7, q8, q9, q10, _⟩ := quo_in h0 hn a1
    rw [List.drop_eq_getElem_cons h]
    simp only [List.map_cons, gU, sizeT]
    refine Ev.step (fun _ => rfl) ?_
    simp only [unit_Size.l0]
    refine Ev.pos (by omega) (Ev.pos (by omega) (Ev.pos (by omega) ?_))
    rw [rdUn bU i h, w1 i (by omega), q2]
    refine Ev.neg (by omega) ?_
    by_cases hge : n % bU[i].f1 = 0
    · rw [if_pos hge]
      refine Ev.pos hge ?_
      rw [q5, text_ev q6]
      have ht := text_size _ q6
      refine Ev.one (Ev.pos (by omega) (Ev.ret ?_))
      exact Prod.ext (by_ext (by rw [by_append, by_mk]; exact (by_mk _).symm)) rfl
    · rw [if_neg hge]
      exact Ev.neg hge (ih (i + 1) n (by omega) (by omega) h0 hn)
theorem refSize_loop : ∀ d i n, bU.length - i = d → i ≤ bU.length → 0 ≤ n → in64 n →
    Ev (fun k => archivistref03_Size.l0 k n bF (namesA true) (i : Int)) (⟨(sizeT n ((bU.drop i).map gU)).1.toArray⟩, (sizeT n ((bU.drop i).map gU)).2) := by
  intro d
  have h6 : bU.length = 4 := rfl
  have hF : (bF.length : Int) = 4 := rfl
  have hN : ((namesA true).length : Int) = 4 := rfl
  induction d with
  | zero =>
    intro i n hd hi h0 hn
    rw [List.drop_of_length_le (by omega)]
    refine Ev.step (fun _ => rfl) ?_
    simp only [archivistref03_Size.l0]
    exact Ev.neg (by omega) (Ev.now _)
  | succ d ih =>
    intro i n hd hi h0 hn
    have h : i < bU.length := by omega
    obtain ⟨a1, a2, a3, a4, a5⟩ := bU_at i h
    obtain ⟨q1, q2, q3, q4, q5, q6, q7, q8, q9, q10, _⟩ := quo_in h0 hn a1
    rw [List.drop_eq_getElem_cons h]
    simp only [List.map_cons, gU, sizeT]
    refine Ev.step (fun _ => rfl) ?_
    simp only [archivistref03_Size.l0]
    refine Ev.pos (by omega) (Ev.pos (by omega) ?_)
    rw [a4, a5, w1 i (by omega), q2]
    refine Ev.neg (by omega) ?_
    by_cases hge : n % bU[i].f1 = 0
    · rw [if_pos hge]
      refine Ev.pos hge ?_
      rw [q5]
      have ht := text_size _ q6
      refine Ev.bind (refText_ev q6) (Ev.pos (by omega) (Ev.pos (by omega) (Ev.ret ?_)))
      exact Prod.ext (by_ext (by rw [by_append, by_mk]; exact (by_mk _).symm)) rfl
    · rw [if_neg hge]
      exact Ev.neg hge (ih (i + 1) n (by omega) (by omega) h0 hn)
theorem sizeU_ev {n : Int} (hn : in64 n) : Ev (fun k => unit_Size.f k n) (sizeR n) := by
  unfold unit_Size.f sizeR
  by_cases h1 : n < 0
  · rw [if_pos h1]
    exact Ev.pos h1 (Ev.now _)
  rw [if_neg h1]
  refine Ev.neg h1 ?_
  by_cases h2 : n = 0
  · rw [if_pos h2]
    exact Ev.pos h2 (Ev.now _)
  rw [if_neg h2, byt_f]
  exact Ev.neg h2 (Ev.one (size_loop 4 0 n rfl (by omega) (by omega) hn))
theorem refSizeOf_ev {n : Int} (hn : in64 n) : Ev (fun k => archivistref03_Size.f k n) (sizeR n) := by
  unfold archivistref03_Size.f sizeR
  by_cases h1 : n < 0
  · rw [if_pos h1]
    exact Ev.pos h1 (Ev.now _)
  rw [if_neg h1]
  refine Ev.neg h1 ?_
  by_cases h2 : n = 0
  · rw [if_pos h2]
    exact Ev.pos h2 (Ev.now _)
  rw [if_neg h2, fact_f, (names_f true).1]
  exact Ev.neg h2 (Ev.one (Ev.one (refSize_loop 4 0 n rfl (by omega) (by omega) hn)))

/-! ### what is told is read -/
theorem isD_digit {c : UInt8} (h : digitB c) : isD c = true := by
  unfold digitB at h
  unfold isD
  rw [decide_eq_true h.1, decide_eq_true h.2]
  rfl
theorem itoa_dig {q : Int} (h : 0 ≤ q) : ∀ c ∈ itoa q, isD c = true := by
  unfold itoa
  rw [if_neg (by omega)]
  exact fun c hc => isD_digit (dec_digit _ c hc)
/-- nothing, or what begins with a digit -/
def HeadD (l : List UInt8) : Prop := l = [] ∨ ∃ c r, l = c :: r ∧ isD c = true
theorem HeadD.take {l : List UInt8} (h : HeadD l) : l.takeWhile notD = [] ∧ l.dropWhile notD = l := by
  rcases h with rfl | ⟨c, r, rfl, h⟩
  · exact ⟨rfl, rfl⟩
  · have : notD c = false := by unfold notD; rw [h]; rfl
    rw [List.takeWhile_cons, List.dropWhile_cons, this]
    exact ⟨rfl, rfl⟩
theorem take_app {α : Type} {p : α → Bool} : ∀ {a : List α} (b : List α), (∀ c ∈ a, p c = true) → (a ++ b).takeWhile p = a ++ b.takeWhile p ∧ (a ++ b).dropWhile p = b.dropWhile p
  | [], b, _ => ⟨rfl, rfl⟩
  | x :: a, b, h => by
    obtain ⟨h1, h2⟩ := take_app (p := p) b (fun c hc => h c (List.mem_cons_of_mem _ hc))
    have hx := h x List.mem_cons_self
    rw [List.cons_append, List.takeWhile_cons, List.dropWhile_cons, hx, if_pos rfl, if_pos rfl, h1, h2]
    exact ⟨rfl, rfl⟩
theorem unitP_put (L : List (List UInt8)) {q : Int} (hq : in64 q) (h0 : 0 ≤ q) {nm r : List UInt8} (hne : nm ≠ []) (hnm : ∀ c ∈ nm, notD c = true) (hr : HeadD r) :
    unitP L (itoa q ++ (nm ++ r)) = (placeU L nm 0).map fun u => (q, u, r) := by
  obtain ⟨t1, t2⟩ := take_app (p := isD) (nm ++ r) (itoa_dig h0)
  have t3 : (nm ++ r).takeWhile isD = [] ∧ (nm ++ r).dropWhile isD = nm ++ r := by
    cases nm with
    | nil => exact absurd rfl hne
    | cons c nm =>
      have hc := hnm c List.mem_cons_self
      have : isD c = false := by unfold notD at hc; simpa using hc
      rw [List.cons_append, List.takeWhile_cons, List.dropWhile_cons, this]
      exact ⟨rfl, rfl⟩
  obtain ⟨t4, t5⟩ := take_app (p := notD) r hnm
  have hN : numL (itoa q ++ (nm ++ r)) = itoa q := by unfold numL; rw [t1, t3.1, List.append_nil]
  have hU : unitL (itoa q ++ (nm ++ r)) = nm := by unfold unitL; rw [t2, t3.2, t4, hr.take.1, List.append_nil]
  have hR : restL (itoa q ++ (nm ++ r)) = r := by unfold restL; rw [t2, t3.2, t5, hr.take.2]
  unfold unitP
  rw [hN, hU, hR, parseN_itoa hq]
theorem dN_atD (i : Nat) (h : i < dU.length) : by_ (dU.getD i uZ).f0 ≠ [] ∧ (∀ c ∈ by_ (dU.getD i uZ).f0, notD c = true) ∧ placeU dN (by_ (dU.getD i uZ).f0) 0 = some i ∧ dF.getD i 0 = (dU.getD i uZ).f1 ∧ (i = 5 → (dU.getD i uZ).f1 = 1) := by
  match i, h with
  | 0, _ => exact ⟨by decide, by decide, rfl, rfl, fun h => by cases h⟩
  | 1, _ => exact ⟨by decide, by decide, rfl, rfl, fun h => by cases h⟩
  | 2, _ => exact ⟨by decide, by decide, rfl, rfl, fun h => by cases h⟩
  | 3, _ => exact ⟨by decide, by decide, rfl, rfl, fun h => by cases h⟩
  | 4, _ => exact ⟨by decide, by decide, rfl, rfl, fun h => by cases h⟩
  | 5, _ => exact ⟨by decide, by decide, rfl, rfl, fun _ => rfl⟩
  | i + 6, h => exact absurd h (by show ¬ i + 6 < 6; omega)
theorem dN_at (i : Nat) (h : i < dU.length) : by_ dU[i].f0 ≠ [] ∧ (∀ c ∈ by_ dU[i].f0, notD c = true) ∧ placeU dN (by_ dU[i].f0) 0 = some i ∧ dF.getD i 0 = dU[i].f1 ∧ (i = 5 → dU[i].f1 = 1) := by
  have e : dU[i] = dU.getD i uZ := by rw [List.getD_eq_getElem?_getD, List.getElem?_eq_getElem h]; rfl
  rw [e]
  exact dN_atD i h
theorem bN_atD (i : Nat) (h : i < bU.length) : by_ (bU.getD i uZ).f0 ≠ [] ∧ (∀ c ∈ by_ (bU.getD i uZ).f0, notD c = true) ∧ placeU bN (by_ (bU.getD i uZ).f0) 0 = some i ∧ bF.getD i 0 = (bU.getD i uZ).f1 ∧ (i = 3 → (bU.getD i uZ).f1 = 1) ∧ placeU dN (by_ (bU.getD i uZ).f0) 0 = none := by
  match i, h with
  | 0, _ => exact ⟨by decide, by decide, rfl, rfl, (fun h => by cases h), rfl⟩
  | 1, _ => exact ⟨by decide, by decide, rfl, rfl, (fun h => by cases h), rfl⟩
  | 2, _ => exact ⟨by decide, by decide, rfl, rfl, (fun h => by cases h), rfl⟩
  | 3, _ => exact ⟨by decide, by decide, rfl, rfl, (fun _ => rfl), rfl⟩
  | i + 4, h => exact absurd h (by show ¬ i + 4 < 4; omega)
theorem bN_at (i : Nat) (h : i < bU.length) : by_ bU[i].f0 ≠ [] ∧ (∀ c ∈ by_ bU[i].f0, notD c = true) ∧ placeU bN (by_ bU[i].f0) 0 = some i ∧ bF.getD i 0 = bU[i].f1 ∧ (i = 3 → bU[i].f1 = 1) ∧ placeU dN (by_ bU[i].f0) 0 = none := by
  have e : bU[i] = bU.getD i uZ := by rw [List.getD_eq_getElem?_getD, List.getElem?_eq_getElem h]; rfl
  rw [e]
  exact bN_atD i h
/-- one part of a duration -/
theorem durP_part (d : Nat) (sum last : Int) (i : Nat) (h : i < dU.length) {q : Int} (hq : in64 q) (h0 : 0 ≤ q) {r : List UInt8} (hr : HeadD r) :
    durP (d + 1) sum last (itoa q ++ (by_ dU[i].f0 ++ r)) = if in64 (q * dU[i].f1) ∧ last < (i : Int) ∧ in64 (sum + q * dU[i].f1) then durP d (sum + q * dU[i].f1) i r else (0, false) := by
  obtain ⟨a1, a2, a3, a4, _⟩ := dN_at i h
  have hu := unitP_put dN hq h0 a1 a2 hr
  rw [a3] at hu
  conv => lhs; unfold durP
  rw [if_neg (fun e => by have := e.1; rw [List.append_eq_nil_iff] at this; exact itoa_ne q this.1), hu]
  simp only [Option.map_some, a4]
theorem span_head : ∀ (us : List (List UInt8 × Int)) (n : Int), 0 ≤ n → (∀ x ∈ us, 0 < x.2) → HeadD (spanT n us)
  | [], n, _, _ => .inl rfl
  | (nm, f) :: us, n, h0, hf => by
    have hf0 : 0 < f := hf (nm, f) List.mem_cons_self
    unfold spanT
    split
    · right
      have hq : 0 ≤ n / f := Int.ediv_nonneg h0 (by omega)
      cases hi : itoa (n / f) with
      | nil => exact absurd hi (itoa_ne _)
      | cons c r => exact ⟨c, _, rfl, itoa_dig hq c (by rw [hi]; exact List.mem_cons_self)⟩
    · exact span_head us n h0 (fun x hx => hf x (List.mem_cons_of_mem _ hx))
theorem dU_pos (i : Nat) : ∀ x ∈ (dU.drop i).map gU, 0 < x.2 := by
  intro x hx
  obtain ⟨y, hy, rfl⟩ := List.mem_map.1 hx
  obtain ⟨j, hj, rfl⟩ := List.getElem_of_mem (List.mem_of_mem_drop hy)
  exact (dU_at j hj).1
theorem dur_span : ∀ d i n sum last fuel, dU.length - i = d → i ≤ dU.length → 0 ≤ n → in64 n → (i = dU.length → n = 0) → 0 ≤ sum → in64 (sum + n) → last < (i : Int) → (0 ≤ last ∨ 0 < n) →
    (spanT n ((dU.drop i).map gU)).length < fuel → durP fuel sum last (spanT n ((dU.drop i).map gU)) = (sum + n, true) := by
  intro d
  have h6 : dU.length = 6 := rfl
  induction d with
  | zero =>
    intro i n sum last fuel hd hi h0 hn he hs hsn hl hp hf
    have hn0 := he (by omega)
    rw [List.drop_of_length_le (by omega)] at hf ⊢
    obtain ⟨fuel, rfl⟩ : ∃ q, fuel = q + 1 := ⟨fuel - 1, by omega⟩
    simp only [List.map_nil, spanT, durP]
    rw [if_pos ⟨by first | trivial | rfl, by omega⟩, hn0, Int.add_zero]
  | succ d ih =>
    intro i n sum last fuel hd hi h0 hn he hs hsn hl hp hf
    have h : i < dU.length := by omega
    obtain ⟨a1, a2, _, _, _⟩ := dU_at i h
    obtain ⟨b1, b2, b3, b4, b5⟩ := dN_at i h
    obtain ⟨q1, q2, q3, q4, q5, q6, q7, q8, q9, q10, q11⟩ := quo_in h0 hn a1
    rw [List.drop_eq_getElem_cons h] at hf ⊢
    simp only [List.map_cons, gU, spanT] at hf ⊢
    by_cases hge : n ≥ dU[i].f1
    · rw [if_pos hge] at hf ⊢
      have hcomm : n / dU[i].f1 * dU[i].f1 = dU[i].f1 * (n / dU[i].f1) := Int.mul_comm _ _
      have hpr : 0 ≤ dU[i].f1 * (n / dU[i].f1) := Int.mul_nonneg (by omega) q3
      obtain ⟨fuel, rfl⟩ : ∃ q, fuel = q + 1 := ⟨fuel - 1, by omega⟩
      rw [durP_part fuel sum last i h q6 q3 (span_head _ _ q7 (dU_pos (i + 1))), hcomm]
      unfold in64 at hn hsn
      have i1 : in64 (dU[i].f1 * (n / dU[i].f1)) := ⟨by omega, by omega⟩
      have i2 : in64 (sum + dU[i].f1 * (n / dU[i].f1)) := ⟨by omega, by omega⟩
      rw [if_pos ⟨i1, hl, i2⟩]
      have e : sum + n = sum + dU[i].f1 * (n / dU[i].f1) + n % dU[i].f1 := by omega
      rw [e]
      refine ih (i + 1) (n % dU[i].f1) (sum + dU[i].f1 * (n / dU[i].f1)) i fuel (by omega) (by omega) q7 q10 (fun e => ?_) (by omega) (by rw [← e]; exact hsn) (by omega) (.inl (by omega)) ?_
      · rw [b5 (by omega)]
        exact Int.emod_one n
      · rw [List.length_append, List.length_append] at hf
        have := List.length_pos_iff.2 (itoa_ne (n / dU[i].f1))
        omega
    · rw [if_neg hge] at hf ⊢
      refine ih (i + 1) n sum last fuel (by omega) (by omega) h0 hn (fun e => ?_) hs hsn (by omega) hp hf
      have := b5 (by omega)
      omega
theorem itoa0 : itoa 0 = [48] := by unfold itoa; rw [if_neg (by decide)]; exact dec_small (by decide)
theorem dur_back {n : Int} (h0 : 0 ≤ n) (hn : in64 n) : durL (by_ (spanR n).1) = (n, true) := by
  unfold spanR
  rw [if_neg (by omega)]
  by_cases h2 : n = 0
  · rw [if_pos h2, h2]
    have h := durP_part 2 0 (-1) 2 (by decide) (q := 0) ⟨by decide, by decide⟩ (by omega) (r := []) (.inl rfl)
    rw [if_pos ⟨⟨by decide, by decide⟩, by decide, ⟨by decide, by decide⟩⟩, itoa0] at h
    exact h.trans rfl
  · rw [if_neg h2, by_mk]
    have h := dur_span 6 0 n 0 (-1) ((spanT n dL).length + 1) rfl (by omega) h0 hn (fun e => by cases e) (by omega) (by rw [Int.zero_add]; exact hn) (by omega) (.inr (by omega)) (by show (spanT n dL).length < _; omega)
    rw [Int.zero_add] at h
    exact h
theorem size_back : ∀ d i n, bU.length - i = d → i < bU.length → 0 ≤ n → in64 n → ∃ q u, ∃ h : u < bU.length, 0 ≤ q ∧ in64 q ∧ q * bU[u].f1 = n ∧ sizeT n ((bU.drop i).map gU) = (itoa q ++ by_ bU[u].f0, true) := by
  intro d
  have h6 : bU.length = 4 := rfl
  induction d with
  | zero => intro i n hd hi; omega
  | succ d ih =>
    intro i n hd hi h0 hn
    obtain ⟨a1, a2, _, _, _⟩ := bU_at i hi
    obtain ⟨b1, b2, b3, b4, b5, _⟩ := bN_at i hi
    obtain ⟨q1, q2, q3, q4, q5, q6, q7, q8, q9, q10, q11⟩ := quo_in h0 hn a1
    rw [List.drop_eq_getElem_cons hi]
    simp only [List.map_cons, gU, sizeT]
    by_cases hz : n % bU[i].f1 = 0
    · rw [if_pos hz]
      exact ⟨n / bU[i].f1, i, hi, q3, q6, by rw [Int.mul_comm]; omega, rfl⟩
    · rw [if_neg hz]
      have h3 : i ≠ 3 := fun e => hz (by rw [b5 e]; exact Int.emod_one n)
      exact ih (i + 1) n (by omega) (by omega) h0 hn
theorem byt_back {n : Int} (h0 : 0 ≤ n) (hn : in64 n) : (sizeR n).2 = true ∧ bytL (by_ (sizeR n).1) = (n, true) ∧ durL (by_ (sizeR n).1) = (0, false) := by
  have main : ∀ q u (h : u < bU.length), 0 ≤ q → in64 q → q * bU[u].f1 = n → bytL (itoa q ++ by_ bU[u].f0) = (n, true) ∧ durL (itoa q ++ by_ bU[u].f0) = (0, false) := by
    intro q u h hq hqi hqn
    obtain ⟨b1, b2, b3, b4, b5, b6⟩ := bN_at u h
    have k1 := unitP_put bN hqi hq b1 b2 (r := []) (.inl rfl)
    have k2 := unitP_put dN hqi hq b1 b2 (r := []) (.inl rfl)
    rw [List.append_nil, b3] at k1
    rw [List.append_nil, b6] at k2
    constructor
    · unfold bytL
      rw [k1]
      simp only [Option.map_some, if_true, b4]
      unfold mulP2
      rw [hqn, if_pos hn]
    · unfold durL
      simp only [durP]
      rw [if_neg (fun e => by have := e.1; rw [List.append_eq_nil_iff] at this; exact itoa_ne q this.1), k2]
      rfl
  unfold sizeR
  rw [if_neg (by omega)]
  by_cases h2 : n = 0
  · rw [if_pos h2]
    have h := main 0 3 (by decide) (by omega) ⟨by decide, by decide⟩ (by rw [h2]; rfl)
    rw [itoa0] at h
    exact ⟨rfl, h⟩
  · rw [if_neg h2]
    obtain ⟨q, u, h, h3, h4, h5, h6⟩ := size_back 4 0 n rfl (by decide) h0 hn
    have h6' : sizeT n bL = (itoa q ++ by_ bU[u].f0, true) := h6
    rw [h6', by_mk]
    exact ⟨rfl, main q u h h3 h4 h5⟩
theorem shr_in {a c : Int} (ha : in64 a) : in64 (shr .i64 a c) := by
  unfold shr
  have hp : 0 < (2 : Int) ^ min c.toNat IntKind.i64.bits := Int.pow_pos (by decide)
  generalize (2 : Int) ^ min c.toNat IntKind.i64.bits = p at *
  unfold in64 at *
  rcases Int.le_total 0 a with h | h
  · have h1 := Int.ediv_nonneg h (by omega : 0 ≤ p)
    have h2 := Int.ediv_le_self p h
    omega
  · have h1 : a ≤ a / p := by
      rw [Int.le_ediv_iff_mul_le hp]
      have := Int.mul_le_mul_of_nonpos_left h (by omega : (1 : Int) ≤ p)
      omega
    have h2 : a / p < 1 := by
      rw [Int.ediv_lt_iff_lt_mul hp]
      omega
    omega
end Go.Proofs.YtpijoadbaocnpaaDoor.Pure
